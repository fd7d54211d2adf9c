/- The abstract machine (EqA, SqA, SqB, CpDp, SqC). -/
import Derived.Test.YtafipkbffboebaaDoorApi
import Derived.Test.YtafipkbffboebaaDoorAuto
import Derived.Test.YtafipkbffboebaaDoorEnt
import Derived.Test.YtafipkbffboebaaDoorErM
namespace Go.Proofs.YtafipkbffboebaaDoor
open Go Go.RowKit
set_option maxHeartbeats 4000000
set_option maxRecDepth 100000
set_option linter.unusedVariables false
set_option linter.unusedSimpArgs false
theorem RowD_fs (f g : RowD) : ∃ fs, Tryd.prog.underlying 36 = some (.struct fs) ∧ eqFs Tryd.prog 9999 #[.int .i64 f.off, .int .i64 f.pid, .int .i64 f.seq, .string ⟨List.toArray f.key⟩, .string ⟨List.toArray f.value⟩] #[.int .i64 g.off, .int .i64 g.pid, .int .i64 g.seq, .string ⟨List.toArray g.key⟩, .string ⟨List.toArray g.value⟩] fs.toList = some (decide (f = g)) := by
  refine ⟨_, Tryd.underlying36, ?_⟩
  have ii : pureRun Tryd.prog (isAgg 3) = some false := by kernel_rfl
  have si := fun x y => eqIn_int (d := 9998) Tryd.underlying3 .i64 x y
  simp only [Nat.reduceAdd] at si
  have is : pureRun Tryd.prog (isAgg 9) = some false := by kernel_rfl
  have ss := fun x y => eqIn_str (d := 9998) Tryd.underlying9 x y
  simp only [Nat.reduceAdd] at ss
  obtain ⟨a1, a2, a3, a4, a5⟩ := f
  obtain ⟨b1, b2, b3, b4, b5⟩ := g
  have e : decide (RowD.mk a1 a2 a3 a4 a5 = RowD.mk b1 b2 b3 b4 b5) = (a1 == b1 && (a2 == b2 && (a3 == b3 && (a4 == b4 && (a5 == b5))))) := by rw [Bool.eq_iff_iff]; simp only [RowD.mk.injEq, Bool.and_eq_true, beq_iff_eq, decide_eq_true_eq]
  rw [e]
  cases h1 : (a1 == b1) <;> cases h2 : (a2 == b2) <;> cases h3 : (a3 == b3) <;> cases h4 : (a4 == b4) <;> cases h5 : (a5 == b5) <;> simp [eqFs, ii, si, is, ss, bs_beq, h1, h2, h3, h4, h5]
theorem RowD_bin (x y : Operand) (f g : RowD) : aBin Tryd.prog .eql 36 x y (.agg [.d (int f.off), .d (int f.pid), .d (int f.seq), .d (str f.key), .d (str f.value)]) (.agg [.d (int g.off), .d (int g.pid), .d (int g.seq), .d (str g.key), .d (str g.value)]) = some (Res.pure (vb (decide (f = g)))) ∧ aBin Tryd.prog .neq 36 x y (.agg [.d (int f.off), .d (int f.pid), .d (int f.seq), .d (str f.key), .d (str f.value)]) (.agg [.d (int g.off), .d (int g.pid), .d (int g.seq), .d (str g.key), .d (str g.value)]) = some (Res.pure (vb (!decide (f = g)))) := by
  obtain ⟨fs, hu, he⟩ := RowD_fs f g
  exact agg_eql hu (by kernel_rfl) (by kernel_rfl) he
theorem bin_eqlB {x y : Operand} {a b : Bool} : aBin Tryd.prog .eql 4 x y (vb a) (vb b) = some (Res.pure (vb (a == b))) := by cases a <;> cases b <;> kernel_rfl
end Go.Proofs.YtafipkbffboebaaDoor
namespace Go.Proofs.YtafipkbffboebaaDoor
open Go Go.RowKit
set_option maxHeartbeats 8000000
set_option maxRecDepth 100000
set_option linter.unusedVariables false
set_option linter.unusedSimpArgs false
def bwd_Seen (l : List SeenD) : List (List D) := l.reverse.zipIdx.map fun (e, y) => [int ((l.length : Int) - 1 - (y : Int)), .agg e.dv]
theorem bwd_len_Seen (l : List SeenD) : (bwd_Seen l).length = l.length := by simp [bwd_Seen]
theorem bwd_get_Seen (l : List SeenD) (y : Nat) (e : SeenD) (h : l.reverse[y]? = some e) (hy : y < (bwd_Seen l).length) : (bwd_Seen l)[y] = [int ((l.length : Int) - 1 - y), .agg e.dv] := by
  have : (bwd_Seen l)[y]? = some [int ((l.length : Int) - 1 - y), .agg e.dv] := by simp only [bwd_Seen, List.getElem?_map, List.getElem?_zipIdx, h, Option.map_some, Nat.zero_add]
  exact (List.getElem?_eq_some_iff.1 this).2
theorem backward_Seen (l : List SeenD) (hl : l.length ≤ 1000000) : SeqF Tryd.prog 124 [.ptr [.lst 3 (l.map SeenD.dv)] 0] (bwd_Seen l) := by
  (refine SeqF.of_body Tryd.func124 rfl rfl Tryd.ntmps124 Tryd.results124 (by simp) (fun ks A cont q hL hY => ?_))
  have hlen := bwd_len_Seen l
  (refine gO0 ?_; try (with_reducible exact True.intro))
  refine Wp.loop (fun y : Nat => ⟨ofL [(0, .c (.yld 999)), (1, .c (.d (.ptr [.lst 3 (l.map SeenD.dv)] 0))), (3, vi .i64 ((l.length : Int) - 1 - y))], ofHB (A y) [], 1000, 19, ⟨ks, [], false, some q⟩⟩) (fun y => y ≤ l.length ∧ ∀ j, j < y → cont j = true) (fun y => l.length - y) 0 ⟨Nat.zero_le _, fun j hj => by omega⟩ ?_ ?_
  · refine Weak.keepB (A := A) hL 0 rfl rfl (baseIs_refl _) rfl ?_
    (refine rO0 ?_; try (with_reducible exact True.intro))
    simp
  rintro y ⟨hy, hc⟩
  (refine gO0 ?_; try (with_reducible exact True.intro))
  refine Wp.cond (by (refine rO0 ?_; try (with_reducible exact True.intro)); rfl) (fun h => ?_) (fun h => ?_)
  · have hlt : y < l.length := by simp only [decide_eq_true_eq] at h; omega
    have hi : ((l.length : Int) - 1 - y).toNat = l.length - 1 - y := by omega
    have hp : ((0 : Int) ≤ (l.length : Int) - 1 - y) = True := by simp; omega
    have hg : l[l.length - 1 - y]? = some (l[l.length - 1 - y]'(by omega)) := List.getElem?_eq_getElem (by omega)
    have hYy := hY y (by omega) hc
    have hrev : l.reverse[y]? = some (l[l.length - 1 - y]'(by omega)) := by rw [List.getElem?_reverse hlt, hg]
    rw [bwd_get_Seen l y _ hrev] at hYy
    generalize l[l.length - 1 - y]'(by omega) = e at *
    simp only [SeenD.dv] at hYy
    refine Wp.skip ?_
    refine Wp.seq ?_
    refine Wp.block ?_
    ((first | refine Wp.regY 6 rfl (fun K hK => ?_) | (refine Wp.seq ?_; refine Wp.regY 6 rfl (fun K hK => ?_))); (refine rO (And.intro hi (And.intro hp (And.intro hg (@SeenD.dv.eq_1)))) ?_; try (with_reducible exact True.intro)); refine hK _ ?_; clear hK K; refine YAt.of hL rfl rfl rfl rfl hYy (by ((repeat refine (baseIs_upd (by omega)).2 ?_); first | exact baseIs_refl _ | exact baseIs_ofHB rfl)) (by (refine rO (And.intro hi (And.intro hp (And.intro hg (@SeenD.dv.eq_1)))) ?_; try (with_reducible exact True.intro))) (by (refine rO (And.intro hi (And.intro hp (And.intro hg (@SeenD.dv.eq_1)))) ?_; try (with_reducible exact True.intro))) (by (refine rO (And.intro hi (And.intro hp (And.intro hg (@SeenD.dv.eq_1)))) ?_; try (with_reducible exact True.intro))) ?_; (refine rO (And.intro hi (And.intro hp (And.intro hg (And.intro @SeenD.dv.eq_1 (hL.rb))))) ?_; try (with_reducible exact True.intro)))
    refine Wp.cond (by (refine rO0 ?_; try (with_reducible exact True.intro)); rfl) (fun h => ?_) (fun h => ?_)
    · have hcy : cont y = false := by simpa using h
      (refine gO0 ?_; try (with_reducible exact True.intro))
      refine ⟨rfl, y + 1, ⟨by omega, fun j hj => hc j (by omega), .inr ⟨by omega, hcy⟩⟩, ?_⟩
      (refine rO0 ?_; try (with_reducible exact True.intro))
      exact baseIs_refl _
    · have hcy : cont y = true := by simpa using h
      (refine gO0 ?_; try (with_reducible exact True.intro))
      refine ⟨y + 1, ⟨by omega, fun j hj => ?_⟩, by omega, ?_⟩
      · rcases Nat.lt_or_ge j y with h1 | h1
        · exact hc j h1
        · obtain rfl : j = y := by omega
          exact hcy
      refine Weak.keepB (A := A) (L := [(0, .c (.yld 999)), (1, .c (.d (.ptr [.lst 3 (l.map SeenD.dv)] 0))), (3, vi .i64 ((l.length : Int) - 1 - (y + 1 : Nat)))]) (M := []) (fx := ⟨ks, [], false, some q⟩) hL (y + 1) rfl rfl (baseIs_refl _) rfl ?_
      have e : (l.length : Int) - 1 - (y : Int) - 1 = (l.length : Int) - 1 - ((y : Int) + 1) := by omega
      (refine rO (e) ?_; try (with_reducible exact True.intro))
  · have hyl : y = l.length := by simp only [decide_eq_false_iff_not] at h; omega
    subst hyl
    (refine gO0 ?_; try (with_reducible exact True.intro))
    refine ⟨rfl, l.length, ⟨by omega, fun j hj => hc j (by omega), .inl ⟨by omega, hc⟩⟩, ?_⟩
    (refine rO0 ?_; try (with_reducible exact True.intro))
    exact baseIs_refl _
theorem Backward_Seen (l : List SeenD) : Fun Tryd.prog 116 [.lst 3 (l.map SeenD.dv)] (.fn (.func 124) [.ptr [.lst 3 (l.map SeenD.dv)] 0]) := by
  (refine Fun.of_body Tryd.func116 rfl rfl Tryd.ntmps116 Tryd.results116 (by simp) ?_)
  (refine gO0 ?_; try (with_reducible exact True.intro))
  (refine Wp.weak (Weak.freeze (id := 0) (by (refine rO0 ?_; try (with_reducible exact True.intro)); rfl) (by (refine rO0 ?_; try (with_reducible exact True.intro)); rfl)) ?_)
  (refine gO0 ?_; try (with_reducible exact True.intro))
  (refine rO0 ?_; try (with_reducible exact True.intro))
def prodB (pid epoch : Int) : Bool := decide (1 ≤ pid) && decide (pid ≤ 8) && decide (0 ≤ epoch) && decide (epoch ≤ 100)
theorem producer_fun (pid epoch : Int) : Fun Tryd.prog 92 [int pid, int epoch] (boo (prodB pid epoch)) := by
  (refine Fun.of_body Tryd.func92 rfl rfl Tryd.ntmps92 Tryd.results92 (by simp) ?_)
  (refine gO0 ?_; try (with_reducible exact True.intro))
  (first | refine Wp.sto 4 (vb (prodB pid epoch)) ?_ ?_ | refine Wp.rtoS 4 (vb (prodB pid epoch)) ?_ ?_ | (refine Wp.seq ?_; first | refine Wp.sto 4 (vb (prodB pid epoch)) ?_ ?_ | refine Wp.rtoS 4 (vb (prodB pid epoch)) ?_ ?_))
  · unfold prodB; ((rcases Bool.eq_false_or_eq_true (decide (1 ≤ pid)) with hL1 | hL1) <;> (rcases Bool.eq_false_or_eq_true (decide (pid ≤ 8)) with hL2 | hL2) <;> (rcases Bool.eq_false_or_eq_true (decide (0 ≤ epoch)) with hL3 | hL3) <;> (rcases Bool.eq_false_or_eq_true (decide (epoch ≤ 100)) with hL4 | hL4) <;> (((refine rO (And.intro hL1 (And.intro hL2 (And.intro hL3 (hL4)))) ?_; try (with_reducible exact True.intro)); (repeat (refine bcf (by assumption) ?_; (refine rO (And.intro hL1 (And.intro hL2 (And.intro hL3 (hL4)))) ?_; try (with_reducible exact True.intro))))); all_goals (exact (show okTr _ _ = true by kernel_rfl))))
  (refine gO0 ?_; try (with_reducible exact True.intro))
  (refine rO0 ?_; try (with_reducible exact True.intro))
def withB (n a b : Int) : Bool := decide (a ≤ n) && decide (n ≤ b)
theorem sequence_fun (n : Int) : Fun Tryd.prog 91 [int n] (boo (withB n 0 1048576)) := by
  (refine Fun.of_body Tryd.func91 rfl rfl Tryd.ntmps91 Tryd.results91 (by simp) ?_)
  (refine gO0 ?_; try (with_reducible exact True.intro))
  (first | refine Wp.sto 2 (vb (withB n 0 1048576)) ?_ ?_ | refine Wp.rtoS 2 (vb (withB n 0 1048576)) ?_ ?_ | (refine Wp.seq ?_; first | refine Wp.sto 2 (vb (withB n 0 1048576)) ?_ ?_ | refine Wp.rtoS 2 (vb (withB n 0 1048576)) ?_ ?_))
  · unfold withB; ((rcases Bool.eq_false_or_eq_true (decide (0 ≤ n)) with hL1 | hL1) <;> (rcases Bool.eq_false_or_eq_true (decide (n ≤ 1048576)) with hL2 | hL2) <;> (((refine rO (And.intro hL1 (hL2)) ?_; try (with_reducible exact True.intro)); (repeat (refine bcf (by assumption) ?_; (refine rO (And.intro hL1 (hL2)) ?_; try (with_reducible exact True.intro))))); all_goals (exact (show okTr _ _ = true by kernel_rfl))))
  (refine gO0 ?_; try (with_reducible exact True.intro))
  (refine rO0 ?_; try (with_reducible exact True.intro))
def headBad (p : ProdD) : Bool := !prodB p.pid p.epoch || !withB p.next 0 1048576 || decide (3 < (p.seen.length : Int))
def bad1 (s : SeenD) : Bool := decide (s.count < 1) || decide (4 < s.count) || decide (s.base < -1) || decide (1048576 < s.base)
def bad2 (s : SeenD) (b : Int) : Bool := decide (s.seq < 0) || decide (b - s.count < s.seq)
def badS (s : SeenD) (b : Int) : Bool := bad1 s || bad2 s b
/-- Backwards. -/
def chkR : List SeenD → Int → Bool
  | [], _ => true
  | s :: l, b => !badS s b && chkR l s.seq
def behL : List SeenD → Int → Nat → Int
  | _, b, 0 => b
  | [], b, _ + 1 => b
  | s :: l, b, i + 1 => if badS s b then b else behL l s.seq i
def contL (l : List SeenD) (b : Int) (i : Nat) : Bool := match l[i]? with
  | some s => !badS s (behL l b i)
  | none => true
theorem contL_succ (s : SeenD) (l : List SeenD) (b : Int) (i : Nat) (h : badS s b = false) : contL (s :: l) b (i + 1) = contL l s.seq i := by
  simp only [contL, List.getElem?_cons_succ, behL, h, Bool.false_eq_true, if_false]
theorem contL_zero (s : SeenD) (l : List SeenD) (b : Int) : contL (s :: l) b 0 = !badS s b := by simp [contL, behL]
theorem behL_next : ∀ (l : List SeenD) (b : Int) (i : Nat) (s : SeenD), (∀ j, j < i → contL l b j = true) → l[i]? = some s → behL l b (i + 1) = if badS s (behL l b i) then behL l b i else s.seq
  | [], b, i, s, _, h => by simp at h
  | t :: l, b, 0, s, _, h => by
    simp at h; subst h
    cases hb : badS t b <;> simp [behL, hb]
  | t :: l, b, i + 1, s, hc, h => by
    have h0 := hc 0 (by omega)
    rw [contL_zero] at h0
    have h0 : badS t b = false := by simpa using h0
    have ih := behL_next l t.seq i s (fun j hj => by have := hc (j + 1) (by omega); rwa [contL_succ _ _ _ _ h0] at this) (by simpa using h)
    have e1 : behL (t :: l) b (i + 1 + 1) = behL l t.seq (i + 1) := by rw [behL, h0]; rfl
    have e2 : behL (t :: l) b (i + 1) = behL l t.seq i := by rw [behL, h0]; rfl
    rw [e1, e2, ih]
theorem chkR_all : ∀ (l : List SeenD) (b : Int), (∀ j, j < l.length → contL l b j = true) → chkR l b = true
  | [], _, _ => rfl
  | s :: l, b, hc => by
    have h0 := hc 0 (by simp)
    rw [contL_zero] at h0
    have h1 : badS s b = false := by simpa using h0
    rw [chkR, h0, Bool.true_and]
    exact chkR_all l s.seq (fun j hj => by have := hc (j + 1) (by simpa using hj); rwa [contL_succ _ _ _ _ h1] at this)
theorem chkR_stop : ∀ (l : List SeenD) (b : Int) (i : Nat), (∀ j, j < i → contL l b j = true) → contL l b i = false → chkR l b = false
  | [], b, i, _, h => by simp [contL] at h
  | s :: l, b, 0, _, h => by rw [contL_zero] at h; rw [chkR, h]; rfl
  | s :: l, b, i + 1, hc, h => by
    have h0 := hc 0 (by omega)
    rw [contL_zero] at h0
    have h1 : badS s b = false := by simpa using h0
    rw [contL_succ _ _ _ _ h1] at h
    rw [chkR, chkR_stop l s.seq i (fun j hj => by have := hc (j + 1) (by omega); rwa [contL_succ _ _ _ _ h1] at this) h, Bool.and_false]
theorem badS_rng {s : SeenD} {b : Int} (h : badS s b = false) : 0 ≤ s.seq ∧ s.seq ≤ b ∧ 1 ≤ s.count ∧ s.count ≤ 4 := by
  simp only [badS, bad1, bad2, Bool.or_eq_false_iff, decide_eq_false_iff_not] at h
  omega
theorem behL_rng : ∀ (l : List SeenD) (b : Int) (i : Nat), 0 ≤ b → b ≤ 1048576 → 0 ≤ behL l b i ∧ behL l b i ≤ 1048576
  | l, b, 0, h1, h2 => by cases l <;> exact ⟨h1, h2⟩
  | [], b, i + 1, h1, h2 => ⟨h1, h2⟩
  | s :: l, b, i + 1, h1, h2 => by
    rw [behL]
    cases hb : badS s b with
    | true => exact ⟨h1, h2⟩
    | false =>
      have := badS_rng hb
      exact behL_rng l s.seq i (by omega) (by omega)
def knownB (p : ProdD) : Bool := !headBad p && chkR p.seen.reverse p.next
abbrev knM (p : ProdD) (i : Nat) : List (Nat × HE) := [(0, .cells (p.dv.map .d)), (1, .cells [.d (boo false)]), (2, .cells [.d (int (behL p.seen.reverse p.next i))])]
abbrev knS (p : ProdD) : St := ⟨ofL [(1, .c (.own 0 0)), (2, .c (.own 1 0)), (3, .c (.own 2 0)), (28, .c (.d (.fn (.func 124) [.ptr [.lst 3 (p.seen.map SeenD.dv)] 0])))], ofH (knM p 0), 3, 63, 0⟩
theorem known_fun (p : ProdD) (hl : p.seen.length ≤ 100000) : Fun Tryd.prog 94 [.agg p.dv] (boo (knownB p)) := by
  have c1 := producer_fun p.pid p.epoch
  have c2 := sequence_fun p.next
  have c3 := Backward_Seen p.seen
  (refine Fun.of_body Tryd.func94 rfl rfl Tryd.ntmps94 Tryd.results94 (by simp) ?_)
  (refine gO (@ProdD.dv.eq_1) ?_; try (with_reducible exact True.intro))
  (first | refine Wp.sto 23 (vb (headBad p)) ?_ ?_ | refine Wp.rtoS 23 (vb (headBad p)) ?_ ?_ | (refine Wp.seq ?_; first | refine Wp.sto 23 (vb (headBad p)) ?_ ?_ | refine Wp.rtoS 23 (vb (headBad p)) ?_ ?_))
  · unfold headBad; ((rcases Bool.eq_false_or_eq_true (!prodB p.pid p.epoch) with hL1 | hL1) <;> (rcases Bool.eq_false_or_eq_true (!withB p.next 0 1048576) with hL2 | hL2) <;> (rcases Bool.eq_false_or_eq_true (decide (3 < (p.seen.length : Int))) with hL3 | hL3) <;> (((refine rO (And.intro hL1 (And.intro hL2 (And.intro hL3 (@ProdD.dv.eq_1)))) ?_; try (with_reducible exact True.intro)); (repeat (refine bcf (by assumption) ?_; (refine rO (And.intro hL1 (And.intro hL2 (And.intro hL3 (@ProdD.dv.eq_1)))) ?_; try (with_reducible exact True.intro))))); all_goals (exact (show okTr _ _ = true by kernel_rfl))))
  refine Wp.cond (by (refine rO0 ?_; try (with_reducible exact True.intro)); rfl) (fun h => ?_) (fun h => ?_)
  · have hf : knownB p = false := by simp only [knownB, h, Bool.not_true, Bool.false_and]
    (refine gO0 ?_; try (with_reducible exact True.intro))
    (refine rO (hf) ?_; try (with_reducible exact True.intro))
  have h1 : headBad p = false := h
  have hnx : 0 ≤ p.next ∧ p.next ≤ 1048576 := by
    simp only [headBad, withB, Bool.or_eq_false_iff, Bool.not_eq_false', Bool.and_eq_true, decide_eq_true_eq] at h1
    exact ⟨h1.1.2.1, h1.1.2.2⟩
  have hkn : knownB p = chkR p.seen.reverse p.next := by simp only [knownB, h1, Bool.not_false, Bool.true_and]
  (refine gO (@ProdD.dv.eq_1) ?_; try (with_reducible exact True.intro))
  refine Wp.weak (show Weak _ (knS p) from Weak.keep rfl rfl ?_) ?_
  · (refine rO (And.intro @knM.eq_1 (And.intro @ProdD.dv.eq_1 (And.intro @behL.eq_1 (And.intro @behL.eq_2 (@behL.eq_3))))) ?_; try (with_reducible exact True.intro))
  have hsq := backward_Seen p.seen (by omega)
  have hbl := bwd_len_Seen p.seen
  refine Wp.rangeFunc (xs := bwd_Seen p.seen) rfl rfl hsq 500 (knM p) [0, 1, 2] (fun i => contL p.seen.reverse p.next i) (fun _ => .ret) rfl (fun _ => rfl) rfl (fun _ => rfl) rfl (fun i id h => by cases h) rfl (fun x hx => by simp only [bwd_Seen, List.mem_map] at hx; obtain ⟨⟨r, _⟩, _, rfl⟩ := hx; rfl) ?_ ?_ ?_
  · intro i hi hc o1
    have hi' : i < p.seen.length := by omega
    have hg : p.seen.reverse[i]? = some (p.seen.reverse[i]'(by simpa using hi')) := List.getElem?_eq_getElem (by simpa using hi')
    rw [bwd_get_Seen p.seen i _ hg]
    have hbn := behL_next _ _ i _ hc hg
    have hbr := behL_rng p.seen.reverse p.next i hnx.1 hnx.2
    have hct : contL p.seen.reverse p.next i = !badS (p.seen.reverse[i]'(by simpa using hi')) (behL p.seen.reverse p.next i) := by simp only [contL, hg]
    rw [hct]
    generalize p.seen.reverse[i]'(by simpa using hi') = s at *
    (refine gO (And.intro @knM.eq_1 (And.intro @SeenD.dv.eq_1 (And.intro @ProdD.dv.eq_1 (And.intro @List.cons_append.{0} (@List.nil_append.{0}))))) ?_; try (with_reducible exact True.intro))
    refine ⟨rfl, by (refine rO0 ?_; try (with_reducible exact True.intro)), rfl, fun o2 => ?_⟩
    (refine gO (@SeenD.dv.eq_1) ?_; try (with_reducible exact True.intro))
    (first | refine Wp.sto 48 (vb (bad1 s)) ?_ ?_ | refine Wp.rtoS 48 (vb (bad1 s)) ?_ ?_ | (refine Wp.seq ?_; first | refine Wp.sto 48 (vb (bad1 s)) ?_ ?_ | refine Wp.rtoS 48 (vb (bad1 s)) ?_ ?_))
    · unfold bad1; ((rcases Bool.eq_false_or_eq_true (decide (s.count < 1)) with hL1 | hL1) <;> (rcases Bool.eq_false_or_eq_true (decide (4 < s.count)) with hL2 | hL2) <;> (rcases Bool.eq_false_or_eq_true (decide (s.base < -1)) with hL3 | hL3) <;> (rcases Bool.eq_false_or_eq_true (decide (1048576 < s.base)) with hL4 | hL4) <;> (((refine rO (And.intro hL1 (And.intro hL2 (And.intro hL3 (And.intro hL4 (@SeenD.dv.eq_1))))) ?_; try (with_reducible exact True.intro)); (repeat (refine bcf (by assumption) ?_; (refine rO (And.intro hL1 (And.intro hL2 (And.intro hL3 (And.intro hL4 (@SeenD.dv.eq_1))))) ?_; try (with_reducible exact True.intro))))); all_goals (exact (show okTr _ _ = true by kernel_rfl))))
    refine Wp.cond (by (refine rO0 ?_; try (with_reducible exact True.intro)); rfl) (fun h => ?_) (fun h => ?_)
    · have hb : badS s (behL p.seen.reverse p.next i) = true := by simp only [badS, h, Bool.true_or]
      rw [hb, if_pos rfl] at hbn
      (refine gO0 ?_; try (with_reducible exact True.intro))
      refine ⟨Weak.keep rfl rfl ?_, .inr ⟨by rw [hb]; rfl, rfl, rfl⟩⟩
      (refine rO (And.intro @knM.eq_1 (And.intro @List.cons_append.{0} (And.intro @List.nil_append.{0} (And.intro hbn (@ProdD.dv.eq_1))))) ?_; try (with_reducible exact True.intro))
    have hb1 := h
    have hcr : 1 ≤ s.count ∧ s.count ≤ 4 := by simp only [bad1, Bool.or_eq_false_iff, decide_eq_false_iff_not] at h; omega
    (refine gO (@SeenD.dv.eq_1) ?_; try (with_reducible exact True.intro))
    (first | refine Wp.sto 60 (vb (bad2 s (behL p.seen.reverse p.next i))) ?_ ?_ | refine Wp.rtoS 60 (vb (bad2 s (behL p.seen.reverse p.next i))) ?_ ?_ | (refine Wp.seq ?_; first | refine Wp.sto 60 (vb (bad2 s (behL p.seen.reverse p.next i))) ?_ ?_ | refine Wp.rtoS 60 (vb (bad2 s (behL p.seen.reverse p.next i))) ?_ ?_))
    · unfold bad2; ((rcases Bool.eq_false_or_eq_true (decide (s.seq < 0)) with hL1 | hL1) <;> (rcases Bool.eq_false_or_eq_true (decide (behL p.seen.reverse p.next i - s.count < s.seq)) with hL2 | hL2) <;> (((refine rO (And.intro hL1 (And.intro hL2 (@SeenD.dv.eq_1))) ?_; try (with_reducible exact True.intro)); (repeat (refine bcf (by assumption) ?_; (refine rO (And.intro hL1 (And.intro hL2 (@SeenD.dv.eq_1))) ?_; try (with_reducible exact True.intro))))); all_goals (exact (show okTr _ _ = true by kernel_rfl))))
    refine Wp.cond (by (refine rO0 ?_; try (with_reducible exact True.intro)); rfl) (fun h => ?_) (fun h => ?_)
    · have hb : badS s (behL p.seen.reverse p.next i) = true := by simp only [badS, h, Bool.or_true]
      rw [hb, if_pos rfl] at hbn
      (refine gO0 ?_; try (with_reducible exact True.intro))
      refine ⟨Weak.keep rfl rfl ?_, .inr ⟨by rw [hb]; rfl, rfl, rfl⟩⟩
      (refine rO (And.intro @knM.eq_1 (And.intro @List.cons_append.{0} (And.intro @List.nil_append.{0} (And.intro hbn (@ProdD.dv.eq_1))))) ?_; try (with_reducible exact True.intro))
    · have hb : badS s (behL p.seen.reverse p.next i) = false := by simp only [badS, hb1, h]; rfl
      rw [hb, if_neg (by simp)] at hbn
      (refine gO (@SeenD.dv.eq_1) ?_; try (with_reducible exact True.intro))
      refine ⟨Weak.keep rfl rfl ?_, .inl ⟨rfl, by rw [hb]; rfl⟩⟩
      (refine rO (And.intro @knM.eq_1 (And.intro @List.cons_append.{0} (And.intro @List.nil_append.{0} (And.intro hbn (@ProdD.dv.eq_1))))) ?_; try (with_reducible exact True.intro))
  · intro i hi hc hn
    refine ⟨rfl, ?_⟩
    have e1 := chkR_stop _ _ i hc hn
    (refine rO (And.intro @knM.eq_1 (And.intro @List.cons_append.{0} (And.intro @List.nil_append.{0} (And.intro hkn (And.intro e1 (@ProdD.dv.eq_1)))))) ?_; try (with_reducible exact True.intro))
  · intro hc
    have e1 := chkR_all p.seen.reverse p.next (fun j hj => hc j (by rw [hbl]; simpa using hj))
    (refine gO (And.intro @knM.eq_1 (And.intro @List.cons_append.{0} (And.intro @List.nil_append.{0} (@ProdD.dv.eq_1)))) ?_; try (with_reducible exact True.intro))
    (refine rO (And.intro hkn (e1)) ?_; try (with_reducible exact True.intro))
/-! forwards -/
end Go.Proofs.YtafipkbffboebaaDoor
namespace Go.Proofs.YtafipkbffboebaaDoor
open Go Go.RowKit
set_option maxHeartbeats 8000000
set_option maxRecDepth 100000
set_option linter.unusedVariables false
set_option linter.unusedSimpArgs false
structure SmallL (l : List ProdD) : Prop where
  len : l.length ≤ 100000
  seen : ∀ p ∈ l, p.seen.length ≤ 100000
def mayR : List ProdD → Int → Bool
  | [], _ => true
  | p :: l, last => !(decide (p.pid ≤ last) || !knownB p) && mayR l p.pid
def mayL (l : List ProdD) : Bool := mayR l 0
def lastL (l : List ProdD) : Nat → Int
  | 0 => 0
  | k + 1 => match l[k]? with
    | some p => p.pid
    | none => 0
theorem mayR_all : ∀ (l : List ProdD) (b : Int), mayR l b = true ↔ ∀ k p, l[k]? = some p → (decide (p.pid ≤ match k with | 0 => b | k + 1 => match l[k]? with | some q => q.pid | none => 0) || !knownB p) = false
  | [], b => by simp [mayR]
  | p :: l, b => by
    rw [mayR, Bool.and_eq_true, mayR_all l p.pid]
    constructor
    · rintro ⟨h1, h2⟩ k q hq
      cases k with
      | zero => simp at hq; subst hq; simpa using h1
      | succ k =>
        have := h2 k q (by simpa using hq)
        cases k with
        | zero => exact this
        | succ k => exact this
    · intro h
      refine ⟨by have := h 0 p rfl; simpa using this, fun k q hq => ?_⟩
      have := h (k + 1) q (by simpa using hq)
      cases k with
      | zero => exact this
      | succ k => exact this
theorem mayL_all (l : List ProdD) : mayL l = true ↔ ∀ k p, l[k]? = some p → (decide (p.pid ≤ lastL l k) || !knownB p) = false := by
  rw [mayL, mayR_all]
  constructor <;> intro h k p hp <;> have := h k p hp <;> cases k <;> exact this
theorem may_fun (l : List ProdD) (hs : SmallL l) : Fun Tryd.prog 102 [.lst 4 (l.map ProdD.dv)] (boo (mayL l)) := by
  have hsl := hs.len
  (refine Fun.of_body Tryd.func102 rfl rfl Tryd.ntmps102 Tryd.results102 (by simp) ?_)
  (refine gO0 ?_; try (with_reducible exact True.intro))
  refine Wp.loop (fun k : Nat => ⟨ofL [(3, vi .i64 (lastL l k)), (6, .c (.d (.lst 4 (l.map ProdD.dv)))), (7, vi .i64 l.length), (8, vi .i64 k)], ofH [], 0, 24, 0⟩) (fun k => k ≤ l.length ∧ ∀ j p, j < k → l[j]? = some p → (decide (p.pid ≤ lastL l j) || !knownB p) = false) (fun k => l.length - k) 0 ⟨Nat.zero_le _, fun j p hj => by omega⟩ ?_ ?_
  · refine Weak.keep rfl rfl ?_
    (refine rO (And.intro @lastL.eq_1 (@lastL.eq_2)) ?_; try (with_reducible exact True.intro))
  rintro k ⟨hk, hall⟩
  (refine gO0 ?_; try (with_reducible exact True.intro))
  refine Wp.cond (by (refine rO0 ?_; try (with_reducible exact True.intro)); rfl) (fun h => ?_) (fun h => ?_)
  · have hlt : k < l.length := by simpa using h
    have hge : l[k]? = some l[k] := List.getElem?_eq_getElem hlt
    have c1 := known_fun l[k] (hs.seen _ (List.getElem_mem hlt))
    have hln : lastL l (k + 1) = l[k].pid := by simp only [lastL, hge]
    generalize l[k] = p at *
    simp only [ProdD.dv] at c1
    (refine gO (And.intro hge (@ProdD.dv.eq_1)) ?_; try (with_reducible exact True.intro))
    (first | refine Wp.sto 20 (vb (decide (p.pid ≤ lastL l k) || !knownB p)) ?_ ?_ | refine Wp.rtoS 20 (vb (decide (p.pid ≤ lastL l k) || !knownB p)) ?_ ?_ | (refine Wp.seq ?_; first | refine Wp.sto 20 (vb (decide (p.pid ≤ lastL l k) || !knownB p)) ?_ ?_ | refine Wp.rtoS 20 (vb (decide (p.pid ≤ lastL l k) || !knownB p)) ?_ ?_))
    · ((rcases Bool.eq_false_or_eq_true (decide (p.pid ≤ lastL l k)) with hL1 | hL1) <;> (rcases Bool.eq_false_or_eq_true (!knownB p) with hL2 | hL2) <;> (((refine rO (And.intro hL1 (And.intro hL2 (@ProdD.dv.eq_1))) ?_; try (with_reducible exact True.intro)); (repeat (refine bcf (by assumption) ?_; (refine rO (And.intro hL1 (And.intro hL2 (@ProdD.dv.eq_1))) ?_; try (with_reducible exact True.intro))))); all_goals (exact (show okTr _ _ = true by kernel_rfl))))
    refine Wp.cond (by (refine rO0 ?_; try (with_reducible exact True.intro)); rfl) (fun h => ?_) (fun h => ?_)
    · have hf : mayL l = false := by
        cases hq : mayL l with
        | false => rfl
        | true => have := (mayL_all l).1 hq k p hge; rw [this] at h; cases h
      (refine gO0 ?_; try (with_reducible exact True.intro))
      (refine rO (hf) ?_; try (with_reducible exact True.intro))
    · have h5 := h
      (refine gO (@ProdD.dv.eq_1) ?_; try (with_reducible exact True.intro))
      refine ⟨k + 1, ⟨by omega, fun j x hj hx => ?_⟩, by omega, Weak.keep rfl rfl ?_⟩
      · rcases Nat.lt_or_ge j k with h2 | h2
        · exact hall j x h2 hx
        · obtain rfl : j = k := by omega
          rw [hge] at hx; cases hx; exact h5
      (refine rO (hln) ?_; try (with_reducible exact True.intro))
  · have hf : mayL l = true := (mayL_all l).2 (fun j p hp => hall j p (by have := (List.getElem?_eq_some_iff.1 hp).1; simp only [decide_eq_false_iff_not] at h; omega) hp)
    (refine gO0 ?_; try (with_reducible exact True.intro))
    (refine rO (hf) ?_; try (with_reducible exact True.intro))
theorem first_fun (l : List ProdD) (f : Nat) (caps : List D) (pr : ProdD → Bool) (hl : l.length ≤ 100000) (hf : ∀ x ∈ l, Fun Tryd.prog f (.agg x.dv :: caps) (boo (pr x))) :
    Fun Tryd.prog 111 [.lst 4 (l.map ProdD.dv), .fn (.func f) caps] (.tup [int (l.findIdx pr : Nat), boo (l.any pr)]) := by
  (refine Fun.of_body Tryd.func111 rfl rfl Tryd.ntmps111 Tryd.results111 (by simp) ?_)
  (refine gO0 ?_; try (with_reducible exact True.intro))
  refine Wp.loop (fun k : Nat => ⟨ofL [(0, .c (.d (.lst 4 (l.map ProdD.dv)))), (1, .c (.d (.fn (.func f) caps))), (8, .c (.d (.lst 4 (l.map ProdD.dv)))), (9, vi .i64 l.length), (10, vi .i64 k)], ofH [], 0, 22, 0⟩) (fun k => k ≤ l.length ∧ (l.take k).any pr = false) (fun k => l.length - k) 0 ⟨Nat.zero_le _, rfl⟩ ?_ ?_
  · refine Weak.keep rfl rfl ?_
    (refine rO0 ?_; try (with_reducible exact True.intro))
  rintro k ⟨hk, hall⟩
  (refine gO0 ?_; try (with_reducible exact True.intro))
  refine Wp.cond (by (refine rO0 ?_; try (with_reducible exact True.intro)); rfl) (fun h => ?_) (fun h => ?_)
  · have hlt : k < l.length := by simpa using h
    have c1 := hf l[k] (List.getElem_mem hlt)
    have hs := any_take_succ pr l k hlt
    have hix : pr l[k] = true → l.findIdx pr = k := fun hp => by
      rw [List.findIdx_eq hlt]
      refine ⟨hp, fun j hj => ?_⟩
      have := List.any_eq_false.1 hall (l[j]) (by rw [List.mem_take_iff_getElem]; exact ⟨j, by omega, rfl⟩)
      simpa using this
    have han : pr l[k] = true → l.any pr = true := fun hp => List.any_eq_true.2 ⟨l[k], List.getElem_mem hlt, hp⟩
    have hge : l[k]? = some l[k] := List.getElem?_eq_getElem hlt
    generalize l[k] = p at *
    simp only [ProdD.dv] at c1
    (refine gO (And.intro hge (@ProdD.dv.eq_1)) ?_; try (with_reducible exact True.intro))
    refine Wp.cond (by (refine rO0 ?_; try (with_reducible exact True.intro)); rfl) (fun h => ?_) (fun h => ?_)
    · have h1 := hix h
      have h2 := han h
      (refine gO0 ?_; try (with_reducible exact True.intro))
      (refine rO (And.intro h1 (h2)) ?_; try (with_reducible exact True.intro))
    · (refine gO0 ?_; try (with_reducible exact True.intro))
      refine ⟨k + 1, ⟨by omega, by rw [hs, hall, h]; rfl⟩, by omega, Weak.keep rfl rfl ?_⟩
      (refine rO0 ?_; try (with_reducible exact True.intro))
  · have hall : l.any pr = false := by
      rw [List.take_of_length_le (by simp only [decide_eq_false_iff_not] at h; omega)] at hall; exact hall
    have hix : l.findIdx pr = l.length := List.findIdx_eq_length.2 (fun x hx => by have := List.any_eq_false.1 hall x hx; simpa using this)
    (refine gO0 ?_; try (with_reducible exact True.intro))
    (refine rO (And.intro hall (hix)) ?_; try (with_reducible exact True.intro))
theorem clone_Seen (xs : List (List D)) (hl : xs.length ≤ 1000000) : FunA Tryd.prog 127 [.lst 3 xs] 135 3 xs := by
  cases xs with
  | nil =>
    refine FunA.of_nil (fun a c => ?_)
    (refine FunA.of_body Tryd.func127 rfl rfl Tryd.ntmps127 Tryd.results127 (by simp) ?_)
    cases a with
    | none =>
      (repeat (first | refine Wp.skip ?_ | refine Wp.exit ?_ | refine Wp.ret ?_ | refine Wp.block ?_ | refine Wp.label ?_ | ((first | (first | refine Wp.sreg (fun K hK => ?_) | refine Wp.reg (fun K hK => ?_) | refine Wp.sdrw mixed (fun K hK => ?_) | refine Wp.drw mixed (fun K hK => ?_)) | refine Wp.condG (fun K hT hF => ?_)); (refine rO (And.intro @Option.isNone_none.{0} (@Option.isNone_some.{0})) ?_; try (with_reducible exact True.intro)); (first | (refine hK _ ?_; clear hK K) | (refine ⟨by kernel_rfl, hK _ ?_⟩; clear hK K) | (refine hT ?_; clear hT hF K) | (refine hF ?_; clear hT hF K))) | refine Wp.seq ?_))
      (refine rO0 ?_; try (with_reducible exact True.intro))
    | some ad =>
      (repeat (first | refine Wp.skip ?_ | refine Wp.exit ?_ | refine Wp.ret ?_ | refine Wp.block ?_ | refine Wp.label ?_ | ((first | (first | refine Wp.sreg (fun K hK => ?_) | refine Wp.reg (fun K hK => ?_) | refine Wp.sdrw mixed (fun K hK => ?_) | refine Wp.drw mixed (fun K hK => ?_)) | refine Wp.condG (fun K hT hF => ?_)); (refine rO (And.intro @Option.isNone_none.{0} (@Option.isNone_some.{0})) ?_; try (with_reducible exact True.intro)); (first | (refine hK _ ?_; clear hK K) | (refine ⟨by kernel_rfl, hK _ ?_⟩; clear hK K) | (refine hT ?_; clear hT hF K) | (refine hF ?_; clear hT hF K))) | refine Wp.seq ?_))
      (refine rO0 ?_; try (with_reducible exact True.intro))
      exact .inl ⟨0, rfl, rfl⟩
  | cons f fs =>
    have hb : (fs.length + 1) * 24 ≤ 140737488355328 := by simp at hl; omega
    (refine FunA.of_body Tryd.func127 rfl rfl Tryd.ntmps127 Tryd.results127 (by simp) ?_)
    (repeat (first | refine Wp.skip ?_ | refine Wp.exit ?_ | refine Wp.ret ?_ | refine Wp.block ?_ | refine Wp.label ?_ | ((first | (first | refine Wp.sreg (fun K hK => ?_) | refine Wp.reg (fun K hK => ?_) | refine Wp.sdrw mixed (fun K hK => ?_) | refine Wp.drw mixed (fun K hK => ?_)) | refine Wp.condG (fun K hT hF => ?_)); (refine rO (hb) ?_; try (with_reducible exact True.intro)); (first | (refine hK _ ?_; clear hK K) | (refine ⟨by kernel_rfl, hK _ ?_⟩; clear hK K) | (refine hT ?_; clear hT hF K) | (refine hF ?_; clear hT hF K))) | refine Wp.seq ?_))
    (refine rO0 ?_; try (with_reducible exact True.intro))
    exact .inl ⟨0, rfl, rfl⟩
theorem copied_fun (p : ProdD) (hl : p.seen.length ≤ 100000) : Fun Tryd.prog 122 [.agg p.dv] (.agg p.dv) := by
  have c1 := (clone_Seen (p.seen.map SeenD.dv) (by simp; omega)).fun
  (refine Fun.of_body Tryd.func122 rfl rfl Tryd.ntmps122 Tryd.results122 (by simp) ?_)
  (refine gO (@ProdD.dv.eq_1) ?_; try (with_reducible exact True.intro))
  (refine rO (@ProdD.dv.eq_1) ?_; try (with_reducible exact True.intro))
abbrev pzD : ProdD := ⟨0, 0, 0, []⟩
theorem pz_le : DLe (.agg [int 0, int 0, int 0, nilV]) (.agg pzD.dv) := DLe.agg (.cons (.refl _) (.cons (.refl _) (.cons (.refl _) (.cons (.nil 3) .nil))))
def findF (l : List ProdD) (pid : Int) : ProdD × Bool := match l.find? (fun p => p.pid == pid) with
  | some p => (p, true)
  | none => (pzD, false)
theorem findIdx_find {α : Type} (pr : α → Bool) : ∀ (l : List α), l.any pr = true → l[l.findIdx pr]? = l.find? pr
  | [], h => by simp at h
  | a :: l, h => by
    rw [List.findIdx_cons, List.find?_cons]
    cases hp : pr a with
    | true => simp
    | false =>
      simp only [List.any_cons, hp, Bool.false_or] at h
      simpa using findIdx_find pr l h
theorem findPid_fun (p : ProdD) (pid : Int) : Fun Tryd.prog 121 [.agg p.dv, .ptr [int pid] 0] (boo (p.pid == pid)) := by
  (refine Fun.of_body Tryd.func121 rfl rfl Tryd.ntmps121 Tryd.results121 (by simp) ?_)
  (refine gO (@ProdD.dv.eq_1) ?_; try (with_reducible exact True.intro))
  (refine rO0 ?_; try (with_reducible exact True.intro))
theorem find_fun (l : List ProdD) (pid : Int) (hs : SmallL l) : Fun Tryd.prog 107 [.lst 4 (l.map ProdD.dv), int pid] (.tup [.agg (findF l pid).1.dv, boo (findF l pid).2]) := by
  have c1 := first_fun l 121 [.ptr [int pid] 0] (fun p => p.pid == pid) hs.len (fun x _ => findPid_fun x pid)
  (refine Fun.of_bodyW Tryd.func107 rfl rfl Tryd.ntmps107 Tryd.results107 (by simp) ?_)
  (refine gO0 ?_; try (with_reducible exact True.intro))
  (refine Wp.weak (Weak.freeze (id := 0) (by (refine rO0 ?_; try (with_reducible exact True.intro)); rfl) (by (refine rO0 ?_; try (with_reducible exact True.intro)); rfl)) ?_)
  cases ha : l.any (fun p => p.pid == pid) with
  | false =>
    have hn : l.find? (fun p => p.pid == pid) = none := List.find?_eq_none.2 (fun x hx => by simpa using List.any_eq_false.1 ha x hx)
    have e1 : findF l pid = (pzD, false) := by simp only [findF, hn]
    rw [ha] at c1
    rw [e1]
    (refine gO0 ?_; try (with_reducible exact True.intro))
    (refine rO0 ?_; try (with_reducible exact True.intro))
    exact ⟨_, rfl, DLe.tup (.cons pz_le (.cons (.refl _) .nil))⟩
  | true =>
    rw [ha] at c1
    have hfi := findIdx_find _ l ha
    obtain ⟨x, hx, hpx⟩ := List.any_eq_true.1 ha
    cases hq : l.find? (fun p => p.pid == pid) with
    | none => have := List.find?_eq_none.1 hq x hx; exact absurd hpx this
    | some p =>
      have e1 : findF l pid = (p, true) := by simp only [findF, hq]
      rw [hq] at hfi
      have c2 := copied_fun p (hs.seen p (List.mem_of_getElem? hfi))
      rw [e1]
      generalize l.findIdx (fun p => p.pid == pid) = k at *
      simp only [ProdD.dv] at c2
      (refine gO (And.intro hfi (@ProdD.dv.eq_1)) ?_; try (with_reducible exact True.intro))
      (refine rO (@ProdD.dv.eq_1) ?_; try (with_reducible exact True.intro))
      exact ⟨_, rfl, fun K v h => h⟩
end Go.Proofs.YtafipkbffboebaaDoor
namespace Go.Proofs.YtafipkbffboebaaDoor
open Go Go.RowKit
set_option maxHeartbeats 8000000
set_option maxRecDepth 100000
set_option linter.unusedVariables false
set_option linter.unusedSimpArgs false
theorem SeenD_fs (f g : SeenD) : ∃ fs, Tryd.prog.underlying 135 = some (.struct fs) ∧ eqFs Tryd.prog 9999 #[.int .i64 f.seq, .int .i64 f.count, .int .i64 f.base] #[.int .i64 g.seq, .int .i64 g.count, .int .i64 g.base] fs.toList = some (decide (f = g)) := by
  refine ⟨_, Tryd.underlying135, ?_⟩
  have ii : pureRun Tryd.prog (isAgg 3) = some false := by kernel_rfl
  have si := fun x y => eqIn_int (d := 9998) Tryd.underlying3 .i64 x y
  simp only [Nat.reduceAdd] at si
  obtain ⟨a1, a2, a3⟩ := f
  obtain ⟨b1, b2, b3⟩ := g
  have e : decide (SeenD.mk a1 a2 a3 = SeenD.mk b1 b2 b3) = (a1 == b1 && (a2 == b2 && (a3 == b3))) := by rw [Bool.eq_iff_iff]; simp only [SeenD.mk.injEq, Bool.and_eq_true, beq_iff_eq, decide_eq_true_eq]
  rw [e]
  cases h1 : (a1 == b1) <;> cases h2 : (a2 == b2) <;> cases h3 : (a3 == b3) <;> simp [eqFs, ii, si, bs_beq, h1, h2, h3]
theorem SeenD_bin (x y : Operand) (f g : SeenD) : aBin Tryd.prog .eql 135 x y (.agg [.d (int f.seq), .d (int f.count), .d (int f.base)]) (.agg [.d (int g.seq), .d (int g.count), .d (int g.base)]) = some (Res.pure (vb (decide (f = g)))) ∧ aBin Tryd.prog .neq 135 x y (.agg [.d (int f.seq), .d (int f.count), .d (int f.base)]) (.agg [.d (int g.seq), .d (int g.count), .d (int g.base)]) = some (Res.pure (vb (!decide (f = g)))) := by
  obtain ⟨fs, hu, he⟩ := SeenD_fs f g
  exact agg_eql hu (by kernel_rfl) (by kernel_rfl) he
end Go.Proofs.YtafipkbffboebaaDoor
namespace Go.Proofs.YtafipkbffboebaaDoor
open Go Go.RowKit
set_option maxHeartbeats 8000000
set_option maxRecDepth 100000
set_option linter.unusedVariables false
set_option linter.unusedSimpArgs false
abbrev ptS (l : List ProdD) (a b : Nat) (p : ProdD) (k : Nat) : St := ⟨ofL [(0, .c (.d (.lst 4 (l.map ProdD.dv)))), (2, vi .i64 b), (7, .c (.own 0 0)), (9, .c (.app 1 4 (((l.take a).take k).map ProdD.dv))), (20, .c (.d (.lst 4 ((l.map ProdD.dv).take a)))), (21, vi .i64 a), (22, vi .i64 k)], ofH [(0, .cells (p.dv.map .d)), (1, .row 39 4 k)], 2, 52, 0⟩
abbrev ptS2 (l : List ProdD) (a b : Nat) (p : ProdD) (k : Nat) : St := ⟨ofL [(9, .c (.app 1 4 ((l.take a ++ [p] ++ (l.drop b).take k).map ProdD.dv))), (39, .c (.d (.lst 4 ((l.map ProdD.dv).drop b)))), (40, vi .i64 (l.length - b : Nat)), (41, vi .i64 k)], ofH [(1, .row 39 4 (a + 1 + k))], 2, 52, 0⟩
theorem put_fun (l : List ProdD) (a b : Nat) (p : ProdD) (hs : SmallL l) (hp : p.seen.length ≤ 100000) (ha : a ≤ l.length) (hb : b ≤ l.length) :
    Fun Tryd.prog 113 [.lst 4 (l.map ProdD.dv), int a, int b, .agg p.dv] (.lst 4 ((l.take a ++ [p] ++ l.drop b).map ProdD.dv)) := by
  have hl := hs.len
  have c0 := copied_fun p hp
  simp only [ProdD.dv] at c0
  have hb0 : 48 * (l.length + 1) ≤ 140737488355328 := by omega
  have htn : ((l.length : Int) + 1).toNat = l.length + 1 := by omega
  have hnn : ((0 : Int) ≤ (l.length : Int) + 1) = True := by simp; omega
  have hta : ((l.map ProdD.dv).take a).length = a := by rw [List.length_take, List.length_map]; omega
  (refine Fun.of_body Tryd.func113 rfl rfl Tryd.ntmps113 Tryd.results113 (by simp) ?_)
  (refine gO (And.intro @ProdD.dv.eq_1 (And.intro hb0 (And.intro htn (And.intro hnn (And.intro ha (hta)))))) ?_; try (with_reducible exact True.intro))
  refine Wp.loop (ptS l a b p) (fun k => k ≤ a) (fun k => a - k) 0 (Nat.zero_le _) ?_ ?_
  · refine Weak.keep rfl rfl ?_
    (refine rO (And.intro @ProdD.dv.eq_1 (And.intro @List.take_zero.{0} (@List.map_nil.{0,0}))) ?_; try (with_reducible exact True.intro))
  · intro k hk
    (refine gO0 ?_; try (with_reducible exact True.intro))
    refine Wp.cond (by (refine rO0 ?_; try (with_reducible exact True.intro)); rfl) (fun h => ?_) (fun h => ?_)
    · have hlt : k < (l.take a).length := by rw [List.length_take]; simp only [decide_eq_true_eq] at h; omega
      have hge : (l.take a)[k]? = some (l.take a)[k] := List.getElem?_eq_getElem hlt
      have hm : (l.take a)[k] ∈ l := List.mem_of_mem_take (List.getElem_mem hlt)
      have htk := take_succ_get (l.take a) k hlt
      have htl : ((l.take a).take k).length = k := by rw [List.length_take]; omega
      have hbb : (k + 1) * 48 ≤ 140737488355328 := by rw [List.length_take] at hlt; omega
      have hka : k + 1 ≤ a := by simp only [decide_eq_true_eq] at h; omega
      have c1 := copied_fun (l.take a)[k] (hs.seen _ hm)
      have hge2 : ((l.map ProdD.dv).take a)[k]? = some (l.take a)[k].dv := by rw [← List.map_take, List.getElem?_map, hge]; rfl
      generalize (l.take a)[k] = q at *
      simp only [ProdD.dv] at c1 hge2
      (refine gO (And.intro hge2 (And.intro @ProdD.dv.eq_1 (And.intro htl (hbb)))) ?_; try (with_reducible exact True.intro))
      refine ⟨k + 1, hka, by omega, Weak.keep rfl rfl ?_⟩
      (refine rO (And.intro @ProdD.dv.eq_1 (And.intro htk (@List.map_append.{0,0}))) ?_; try (with_reducible exact True.intro))
    · have hk2 : k = a := by simp only [decide_eq_false_iff_not] at h; omega
      subst hk2
      have htl : (l.take k).length = k := by rw [List.length_take]; omega
      have htt : (l.take k).take k = l.take k := by rw [List.take_take, Nat.min_self]
      have hbb : (k + 1) * 48 ≤ 140737488355328 := by omega
      have hdl : ((l.map ProdD.dv).drop b).take (l.length - b) = (l.map ProdD.dv).drop b := List.take_of_length_le (by simp)
      have hdl2 : ((l.map ProdD.dv).drop b).length = l.length - b := by rw [List.length_drop, List.length_map]
      (refine gO (And.intro @ProdD.dv.eq_1 (And.intro htt (And.intro htl (And.intro hbb (And.intro hb (And.intro hdl (hdl2))))))) ?_; try (with_reducible exact True.intro))
      refine Wp.loop (ptS2 l k b p) (fun j => j ≤ l.length - b) (fun j => l.length - b - j) 0 (Nat.zero_le _) ?_ ?_
      · refine Weak.keep rfl rfl ?_
        (refine rO (And.intro @ProdD.dv.eq_1 (And.intro @List.map_append.{0,0} (And.intro @List.map_cons.{0,0} (And.intro @List.map_nil.{0,0} (And.intro @List.take_zero.{0} (And.intro @List.append_nil.{0} (@Nat.add_zero))))))) ?_; try (with_reducible exact True.intro))
      intro j hj
      have hdb : (l.drop b).length = l.length - b := List.length_drop
      (refine gO0 ?_; try (with_reducible exact True.intro))
      refine Wp.cond (by (refine rO0 ?_; try (with_reducible exact True.intro)); rfl) (fun h => ?_) (fun h => ?_)
      · have hlt : j < (l.drop b).length := by rw [hdb]; simp only [decide_eq_true_eq] at h; omega
        have hge : (l.drop b)[j]? = some (l.drop b)[j] := List.getElem?_eq_getElem hlt
        have hm : (l.drop b)[j] ∈ l := List.mem_of_mem_drop (List.getElem_mem hlt)
        have htk := take_succ_get (l.drop b) j hlt
        have htl2 : (l.take k ++ [p] ++ (l.drop b).take j).length = k + 1 + j := by simp only [List.length_append, List.length_take, List.length_singleton]; omega
        have hjb : j + 1 ≤ l.length - b := by rw [hdb] at hlt; exact hlt
        have hbb2 : (k + 1 + j + 1) * 48 ≤ 140737488355328 := by
          have h5 : k + 1 + j + 1 ≤ 300000 := by clear hbb hb0 hnn htn hta htl htt hdl hdl2 htl2; omega
          exact Nat.le_trans (Nat.mul_le_mul_right 48 h5) (by decide)
        have c1 := copied_fun (l.drop b)[j] (hs.seen _ hm)
        have hge2 : ((l.map ProdD.dv).drop b)[j]? = some (l.drop b)[j].dv := by rw [← List.map_drop, List.getElem?_map, hge]; rfl
        generalize (l.drop b)[j] = q at *
        simp only [ProdD.dv] at c1 hge2
        (refine gO (And.intro hge2 (And.intro @ProdD.dv.eq_1 (And.intro htl2 (hbb2)))) ?_; try (with_reducible exact True.intro))
        refine ⟨j + 1, hjb, by omega, Weak.keep rfl rfl ?_⟩
        (refine rO (And.intro @ProdD.dv.eq_1 (And.intro htk (And.intro @List.map_append.{0,0} (And.intro @List.map_cons.{0,0} (And.intro @List.map_nil.{0,0} (And.intro @List.append_assoc.{0} (@Nat.add_assoc))))))) ?_; try (with_reducible exact True.intro))
      · have hj2 : j = l.length - b := by simp only [decide_eq_false_iff_not] at h; omega
        have htt2 : (l.drop b).take j = l.drop b := List.take_of_length_le (by omega)
        (refine gO (htt2) ?_; try (with_reducible exact True.intro))
        (refine rO (htt2) ?_; try (with_reducible exact True.intro))
/-- Where a producer stands, or would. -/
def placeI (l : List ProdD) (pid : Int) : Nat := l.findIdx (fun x => decide (pid ≤ x.pid))
def thereB (l : List ProdD) (pid : Int) : Bool := match l[placeI l pid]? with
  | some x => x.pid == pid
  | none => false
def setF (l : List ProdD) (p : ProdD) : List ProdD := l.take (placeI l p.pid) ++ [p] ++ l.drop (if thereB l p.pid then placeI l p.pid + 1 else placeI l p.pid)
theorem placeI_le (l : List ProdD) (pid : Int) : placeI l pid ≤ l.length := List.findIdx_le_length
theorem setGe_fun (x p : ProdD) : Fun Tryd.prog 115 [.agg x.dv, .ptr p.dv 0] (boo (decide (p.pid ≤ x.pid))) := by
  (refine Fun.of_body Tryd.func115 rfl rfl Tryd.ntmps115 Tryd.results115 (by simp) ?_)
  (refine gO (@ProdD.dv.eq_1) ?_; try (with_reducible exact True.intro))
  (refine rO0 ?_; try (with_reducible exact True.intro))
theorem set_fun (l : List ProdD) (p : ProdD) (hs : SmallL l) (hp : p.seen.length ≤ 100000) : Fun Tryd.prog 90 [.lst 4 (l.map ProdD.dv), .agg p.dv] (.lst 4 ((setF l p).map ProdD.dv)) := by
  have c1 := first_fun l 115 [.ptr p.dv 0] (fun x => decide (p.pid ≤ x.pid)) hs.len (fun x _ => setGe_fun x p)
  have hle := placeI_le l p.pid
  have hl := hs.len
  have hany : l.any (fun x => decide (p.pid ≤ x.pid)) = decide (placeI l p.pid < l.length) := by
    rw [Bool.eq_iff_iff, decide_eq_true_eq, placeI, List.findIdx_lt_length, List.any_eq_true]
  have c2 := put_fun l (placeI l p.pid) (placeI l p.pid) p hs hp hle hle
  have c3 : placeI l p.pid < l.length → _ := fun h => put_fun l (placeI l p.pid) (placeI l p.pid + 1) p hs hp hle h
  have hTh : thereB l p.pid = match l[placeI l p.pid]? with | some x => x.pid == p.pid | none => false := rfl
  have hS : setF l p = l.take (placeI l p.pid) ++ [p] ++ l.drop (if thereB l p.pid then placeI l p.pid + 1 else placeI l p.pid) := rfl
  have hpi : l.findIdx (fun x => decide (p.pid ≤ x.pid)) = placeI l p.pid := rfl
  rw [hany, hpi] at c1
  generalize placeI l p.pid = k at *
  simp only [ProdD.dv, Int.natCast_add, Int.natCast_one] at c1 c2 c3
  (refine Fun.of_body Tryd.func90 rfl rfl Tryd.ntmps90 Tryd.results90 (by simp) ?_)
  (refine gO (@ProdD.dv.eq_1) ?_; try (with_reducible exact True.intro))
  (refine Wp.weak (Weak.freeze (id := 0) (by (refine rO0 ?_; try (with_reducible exact True.intro)); rfl) (by (refine rO0 ?_; try (with_reducible exact True.intro)); rfl)) ?_)
  rcases Nat.lt_or_ge k l.length with hk | hk
  · have hd : decide (k < l.length) = true := decide_eq_true hk
    have hge : l[k]? = some l[k] := List.getElem?_eq_getElem hk
    have c4 := c3 hk
    rw [hge] at hTh
    generalize l[k] = x at *
    simp only at hTh
    rw [hd] at c1
    cases hq : (x.pid == p.pid) with
    | true =>
      rw [hS, hTh, hq, if_pos rfl]
      (refine gO (And.intro @ProdD.dv.eq_1 (And.intro hge (hq))) ?_; try (with_reducible exact True.intro))
      (refine rO0 ?_; try (with_reducible exact True.intro))
    | false =>
      rw [hS, hTh, hq, if_neg (by simp)]
      (refine gO (And.intro @ProdD.dv.eq_1 (And.intro hge (hq))) ?_; try (with_reducible exact True.intro))
      (refine rO0 ?_; try (with_reducible exact True.intro))
  · have hd : decide (k < l.length) = false := decide_eq_false (by omega)
    have hge : l[k]? = none := List.getElem?_eq_none hk
    rw [hge] at hTh
    simp only at hTh
    rw [hd] at c1
    rw [hS, hTh, if_neg (by simp)]
    (refine gO (@ProdD.dv.eq_1) ?_; try (with_reducible exact True.intro))
    (refine rO0 ?_; try (with_reducible exact True.intro))
end Go.Proofs.YtafipkbffboebaaDoor
