/- The abstract machine (ErCp, CpB, CpC). -/
import Derived.Test.YtafipkbffboebaaDoorErM
import Derived.Test.YtafipkbffboebaaDoorCpA
namespace Go.Proofs.YtafipkbffboebaaDoor
open Go.RowKit Go.Extern.Stop Go.Stop Go.Extern
set_option maxRecDepth 100000
set_option linter.unusedVariables false
set_option linter.unusedSimpArgs false
theorem unw_copying (a : Addr) (n : Int) (w : World) (hc : w.cell? ⟨a.block, a.off + 1, none⟩ = some (.int .i64 n)) (ha : a.spot = none) :
    Calls Tryd.prog 148 #[.pointer (some a)] w fun e w' => e = .returned (.iface 31 (.int .i64 n)) ∧ w = w' := by
  obtain ⟨b, o, sp⟩ := a
  cases ha
  go_enter Tryd.func148, Tryd.ntmps148
  go_wp2_with fail
  go_ret
  exact ⟨rfl, rfl⟩
theorem errT_copying : ErrT 87 148 where
  tof := fun v w => by kernel_rfl
  asg := fun w => by kernel_rfl
  unw := unw_copying
  taA := fun a w => run_typeAssert_lacksB Tryd.underlying166 (by kernel_rfl) (by kernel_rfl) _ _ w
  taI := fun a w => run_typeAssert_lacksB Tryd.underlying156 (by kernel_rfl) (by kernel_rfl) _ _ w
  taU := fun a w => run_typeAssert_hasB Tryd.underlying159 (by kernel_rfl) _ _ w
  mU := fun a w => by kernel_rfl
  fE := fun args w => by simp [callFunc, Tryd.func148, Tryd.f148]
  ne := by decide
set_option maxHeartbeats 1000000 in
theorem codeR_copying (b o : Nat) (n : Int) (w : World) (hg : Glob w) (hc : w.cell? ⟨b, o + 1, none⟩ = some (.int .i64 n)) (hbl : b < w.heap.size) :
    Calls Tryd.prog 20 #[.iface 87 (.pointer (some ⟨b, o, none⟩))] w fun e w' => e = .returned (.int .i64 n) ∧ Below w.heap.size w w' := by
  have b0 : Below w.heap.size w (w.alloc (.cells #[.int .i64 0] 31)) := (Below.refl _ _).alloc (Nat.le_refl _) _
  have l0 := LiesAt.new w #[.int .i64 0] 31
  have hg0 : Glob (w.alloc (.cells #[.int .i64 0] 31)) := hg.below b0
  go_enter Tryd.func20, Tryd.ntmps20
  go_wp2_with fail
  generalize w.alloc (.cells #[.int .i64 0] 31) = W0 at b0 l0 hg0 ⊢
  refine (isR errT_copying b o n 2 W0 ((b0.cell (p := ⟨b, o + 1, none⟩) hbl).trans hc)).mono ?_
  rintro e w' ⟨rfl, rfl⟩
  cases hn : (n == 2)
  · go_wp2_with fail
    refine (asR errT_copying b o n w.heap.size (.int .i64 0) W0 ((b0.cell (p := ⟨b, o + 1, none⟩) hbl).trans hc) (by have := l0.lt; omega) hg0 (l0.cell 0) (l0.frozen 0) l0.lt).mono ?_
    rintro e w' ⟨rfl, hgr, hcell⟩
    have hb1 : Below w.heap.size w w' := b0.grown hgr b0.size (fun k e => by cases e; exact Nat.le_refl _)
    go_wp2_with fail
    go_ret
    exact ⟨rfl, hb1⟩
  · obtain rfl : n = 2 := by simpa using hn
    go_wp2_with fail
    go_ret
    exact ⟨rfl, b0⟩
abbrev err_copying (x : D) (n : Int) : D := .iface 87 (.ptr [x, int n] 0)
theorem code_err_copying (x : D) (n : Int) : Fun Tryd.prog 20 [err_copying x n] (int n) := code_err_of (by kernel_rfl) codeR_copying x
end Go.Proofs.YtafipkbffboebaaDoor
namespace Go.Proofs.YtafipkbffboebaaDoor
open Go Go.RowKit
set_option maxHeartbeats 8000000
set_option maxRecDepth 100000
set_option linter.unusedVariables false
set_option linter.unusedSimpArgs false
structure SmallO (o : OpenD) : Prop where
  bats : o.bats.length ≤ 100000
  recs : ∀ b ∈ o.bats, b.recs.length ≤ 100000
def nextS (l : List BatD) : Nat → Int
  | 0 => match l[0]? with
    | some b => b.seq
    | none => 0
  | i + 1 => match l[i]? with
    | some b => behF b
    | none => 0
def badAt (o : OpenD) (i : Nat) (b : BatD) : Bool := !batB b || !b.txn || b.pid != o.pid || b.epoch != o.epoch || b.seq != nextS o.bats i
def okAt (o : OpenD) (i : Nat) : Bool := match o.bats[i]? with
  | some b => !badAt o i b
  | none => true
def lenBad (o : OpenD) : Bool := decide ((o.bats.length : Int) < 1) || decide (8 < (o.bats.length : Int))
/-- A transaction that has copies. -/
def okO (o : OpenD) : Bool := !lenBad o && (List.range o.bats.length).all (okAt o)
theorem okO_bad {o : OpenD} {i : Nat} {b : BatD} (hb : o.bats[i]? = some b) (h : badAt o i b = true) : okO o = false := by
  have hlt := (List.getElem?_eq_some_iff.1 hb).1
  have : okAt o i = false := by simp only [okAt, hb, h]; rfl
  have h2 : (List.range o.bats.length).all (okAt o) = false := by
    rw [List.all_eq_false]
    exact ⟨i, by simpa using hlt, by rw [this]; simp⟩
  simp only [okO, h2, Bool.and_false]
theorem okO_good {o : OpenD} (h1 : lenBad o = false) (h : ∀ i, i < o.bats.length → okAt o i = true) : okO o = true := by
  simp only [okO, h1, Bool.not_false, Bool.true_and]
  exact List.all_eq_true.2 (fun i hi => h i (by simpa using hi))
abbrev ctxt1 : D := str [116, 104, 101, 32, 110, 117, 109, 98, 101, 114, 32, 111, 102, 32, 98, 97, 116, 99, 104, 101, 115]
abbrev ctxt2 : D := str [97, 32, 98, 97, 116, 99, 104]
def chkD (o : OpenD) : D := if okO o then .val .nilIface else if lenBad o then err_copying ctxt1 2 else err_copying ctxt2 2
abbrev chS (o : OpenD) (k : Nat) : St := ⟨ofL [(1, .c (.own 0 0)), (3, vi .i64 (nextS o.bats k)), (25, .c (.d (.lst 5 (o.bats.map BatD.dv)))), (26, vi .i64 o.bats.length), (27, vi .i64 k)], ofH [(0, .cells (o.dv.map .d))], 1, 63, 0⟩
theorem cpCheck_fun (o : OpenD) (hs : SmallO o) : Fun Tryd.prog 19 [.agg o.dv] (chkD o) := by
  have hbl := hs.bats
  (refine Fun.of_body Tryd.func19 rfl rfl Tryd.ntmps19 Tryd.results19 (by simp) ?_)
  (refine gO (@OpenD.dv.eq_1) ?_; try (with_reducible exact True.intro))
  (first | refine Wp.sto 15 (vb (lenBad o)) ?_ ?_ | refine Wp.rtoS 15 (vb (lenBad o)) ?_ ?_ | (refine Wp.seq ?_; first | refine Wp.sto 15 (vb (lenBad o)) ?_ ?_ | refine Wp.rtoS 15 (vb (lenBad o)) ?_ ?_))
  · unfold lenBad; ((rcases Bool.eq_false_or_eq_true (decide ((o.bats.length : Int) < 1)) with hL1 | hL1) <;> (rcases Bool.eq_false_or_eq_true (decide (8 < (o.bats.length : Int))) with hL2 | hL2) <;> (((refine rO (And.intro hL1 (And.intro hL2 (@OpenD.dv.eq_1))) ?_; try (with_reducible exact True.intro)); (repeat (refine bcf (by assumption) ?_; (refine rO (And.intro hL1 (And.intro hL2 (@OpenD.dv.eq_1))) ?_; try (with_reducible exact True.intro))))); all_goals (exact (show okTr _ _ = true by kernel_rfl))))
  refine Wp.cond (by (refine rO0 ?_; try (with_reducible exact True.intro)); rfl) (fun h => ?_) (fun h => ?_)
  · have hf : okO o = false := by simp only [okO, h, Bool.not_true, Bool.false_and]
    (refine gO0 ?_; try (with_reducible exact True.intro))
    (refine rO (And.intro @chkD.eq_1 (And.intro hf (h))) ?_; try (with_reducible exact True.intro))
  have h1 : lenBad o = false := h
  have hpos : 0 < o.bats.length := by simp only [lenBad, Bool.or_eq_false_iff, decide_eq_false_iff_not] at h; omega
  have h0 : o.bats[0]? = some (o.bats[0]'hpos) := List.getElem?_eq_getElem hpos
  have hn0 : nextS o.bats 0 = (o.bats[0]'hpos).seq := by simp only [nextS, h0]
  generalize o.bats[0]'hpos = b0 at h0 hn0
  (refine gO (And.intro @OpenD.dv.eq_1 (And.intro h0 (@BatD.dv.eq_1))) ?_; try (with_reducible exact True.intro))
  refine Wp.loop (chS o) (fun k => k ≤ o.bats.length ∧ ∀ i, i < k → okAt o i = true) (fun k => o.bats.length - k) 0 ⟨Nat.zero_le _, fun i hi => by omega⟩ ?_ ?_
  · refine Weak.keep rfl rfl ?_
    (refine rO (And.intro @OpenD.dv.eq_1 (hn0)) ?_; try (with_reducible exact True.intro))
  rintro k ⟨hk, hall⟩
  (refine gO (@OpenD.dv.eq_1) ?_; try (with_reducible exact True.intro))
  refine Wp.cond (by (refine rO0 ?_; try (with_reducible exact True.intro)); rfl) (fun h => ?_) (fun h => ?_)
  · have hlt : k < o.bats.length := by simpa using h
    have hge : o.bats[k]? = some o.bats[k] := List.getElem?_eq_getElem hlt
    have hrl := hs.recs o.bats[k] (List.getElem_mem hlt)
    have hnx : nextS o.bats (k + 1) = behF o.bats[k] := by simp only [nextS, hge]
    generalize o.bats[k] = b at *
    have c1 := recMay_fun b hrl
    have c2 := beh_fun b
    simp only [BatD.dv] at c1 c2
    have hbad : badAt o k b = true → okO o = false := okO_bad hge
    have e3 := h1
    cases q1 : batB b with
    | false =>
      have hf := hbad (by simp only [badAt, q1, Bool.not_false, Bool.true_or])
      rw [q1] at c1
      (refine gO (And.intro hge (And.intro @BatD.dv.eq_1 (@OpenD.dv.eq_1))) ?_; try (with_reducible exact True.intro))
      (refine rO (And.intro @chkD.eq_1 (And.intro hf (e3))) ?_; try (with_reducible exact True.intro))
    | true =>
    rw [q1] at c1
    cases q2 : b.txn with
    | false =>
      have hf := hbad (by simp only [badAt, q2, Bool.not_false, Bool.true_or, Bool.or_true])
      rw [q2] at c1
      (refine gO (And.intro hge (And.intro @BatD.dv.eq_1 (And.intro @OpenD.dv.eq_1 (q2)))) ?_; try (with_reducible exact True.intro))
      (refine rO (And.intro @chkD.eq_1 (And.intro hf (e3))) ?_; try (with_reducible exact True.intro))
    | true =>
    rw [q2] at c1 c2
    cases q3 : (b.pid != o.pid) with
    | true =>
      have hf := hbad (by simp only [badAt, q3, Bool.true_or, Bool.or_true])
      (refine gO (And.intro hge (And.intro @BatD.dv.eq_1 (And.intro @OpenD.dv.eq_1 (And.intro q2 (q3))))) ?_; try (with_reducible exact True.intro))
      (refine rO (And.intro @chkD.eq_1 (And.intro hf (e3))) ?_; try (with_reducible exact True.intro))
    | false =>
    cases q4 : (b.epoch != o.epoch) with
    | true =>
      have hf := hbad (by simp only [badAt, q4, Bool.true_or, Bool.or_true])
      (refine gO (And.intro hge (And.intro @BatD.dv.eq_1 (And.intro @OpenD.dv.eq_1 (And.intro q2 (And.intro q3 (q4)))))) ?_; try (with_reducible exact True.intro))
      (refine rO (And.intro @chkD.eq_1 (And.intro hf (e3))) ?_; try (with_reducible exact True.intro))
    | false =>
    cases q5 : (b.seq != nextS o.bats k) with
    | true =>
      have hf := hbad (by simp only [badAt, q5, Bool.or_true])
      (refine gO (And.intro hge (And.intro @BatD.dv.eq_1 (And.intro @OpenD.dv.eq_1 (And.intro q2 (And.intro q3 (And.intro q4 (q5))))))) ?_; try (with_reducible exact True.intro))
      (refine rO (And.intro @chkD.eq_1 (And.intro hf (e3))) ?_; try (with_reducible exact True.intro))
    | false =>
      have hok : okAt o k = true := by simp only [okAt, hge, badAt, q1, q2, q3, q4, q5]; rfl
      (refine gO (And.intro hge (And.intro @BatD.dv.eq_1 (And.intro @OpenD.dv.eq_1 (And.intro q2 (And.intro q3 (And.intro q4 (q5))))))) ?_; try (with_reducible exact True.intro))
      refine ⟨k + 1, ⟨by omega, fun i hi => ?_⟩, by omega, Weak.keep rfl rfl ?_⟩
      · rcases Nat.lt_or_ge i k with h2 | h2
        · exact hall i h2
        · obtain rfl : i = k := by omega
          exact hok
      (refine rO (And.intro @OpenD.dv.eq_1 (hnx)) ?_; try (with_reducible exact True.intro))
  · have hk2 : k = o.bats.length := by simp only [decide_eq_false_iff_not] at h; omega
    subst hk2
    have hf := okO_good h1 hall
    (refine gO0 ?_; try (with_reducible exact True.intro))
    (refine rO (And.intro @chkD.eq_1 (hf)) ?_; try (with_reducible exact True.intro))
/-- The sequence behind the last batch. -/
def lastF (o : OpenD) : Int := match o.bats.getLast? with
  | some b => behF b
  | none => 0
theorem okO_pos {o : OpenD} (h : okO o = true) : 0 < o.bats.length ∧ o.bats.length ≤ 8 := by
  simp only [okO, Bool.and_eq_true, Bool.not_eq_true', lenBad, Bool.or_eq_false_iff, decide_eq_false_iff_not] at h
  omega
theorem cpBehind_fun (o : OpenD) (hs : SmallO o) (h : 0 < o.bats.length) : Fun Tryd.prog 24 [.agg o.dv] (int (lastF o)) := by
  have hbl := hs.bats
  have hg : o.bats[o.bats.length - 1]? = some (o.bats[o.bats.length - 1]'(by omega)) := List.getElem?_eq_getElem (by omega)
  have hl : lastF o = behF (o.bats[o.bats.length - 1]'(by omega)) := by unfold lastF; rw [List.getLast?_eq_getElem?, hg]
  generalize o.bats[o.bats.length - 1]'(by omega) = b at hg hl
  have c1 := beh_fun b
  simp only [BatD.dv] at c1
  have ht : ((o.bats.length : Int) - 1).toNat = o.bats.length - 1 := by omega
  have hge : ((0 : Int) ≤ (o.bats.length : Int) - 1) = True := by simp; omega
  (refine Fun.of_body Tryd.func24 rfl rfl Tryd.ntmps24 Tryd.results24 (by simp) ?_)
  (refine gO (And.intro @OpenD.dv.eq_1 (And.intro ht (And.intro hge (And.intro hg (@BatD.dv.eq_1))))) ?_; try (with_reducible exact True.intro))
  (refine rO (hl) ?_; try (with_reducible exact True.intro))
end Go.Proofs.YtafipkbffboebaaDoor
namespace Go.Proofs.YtafipkbffboebaaDoor
open Go Go.RowKit
set_option maxHeartbeats 8000000
set_option maxRecDepth 100000
set_option linter.unusedVariables false
set_option linter.unusedSimpArgs false
theorem clone_Record (xs : List (List D)) (hl : xs.length ≤ 1000000) : FunA Tryd.prog 23 [.lst 2 xs] 70 2 xs := by
  cases xs with
  | nil =>
    refine FunA.of_nil (fun a c => ?_)
    (refine FunA.of_body Tryd.func23 rfl rfl Tryd.ntmps23 Tryd.results23 (by simp) ?_)
    cases a with
    | none =>
      (repeat (first | refine Wp.skip ?_ | refine Wp.exit ?_ | refine Wp.ret ?_ | refine Wp.block ?_ | refine Wp.label ?_ | ((first | (first | refine Wp.sreg (fun K hK => ?_) | refine Wp.reg (fun K hK => ?_) | refine Wp.sdrw mixed (fun K hK => ?_) | refine Wp.drw mixed (fun K hK => ?_)) | refine Wp.condG (fun K hT hF => ?_)); (refine rO (And.intro @Option.isNone_none.{0} (@Option.isNone_some.{0})) ?_; try (with_reducible exact True.intro)); (first | (refine hK _ ?_; clear hK K) | (refine ⟨by kernel_rfl, hK _ ?_⟩; clear hK K) | (refine hT ?_; clear hT hF K) | (refine hF ?_; clear hT hF K))) | refine Wp.seq ?_))
      (refine rO0 ?_; try (with_reducible exact True.intro))
    | some ad =>
      (repeat (first | refine Wp.skip ?_ | refine Wp.exit ?_ | refine Wp.ret ?_ | refine Wp.block ?_ | refine Wp.label ?_ | ((first | (first | refine Wp.sreg (fun K hK => ?_) | refine Wp.reg (fun K hK => ?_) | refine Wp.sdrw mixed (fun K hK => ?_) | refine Wp.drw mixed (fun K hK => ?_)) | refine Wp.condG (fun K hT hF => ?_)); (refine rO (And.intro @Option.isNone_none.{0} (@Option.isNone_some.{0})) ?_; try (with_reducible exact True.intro)); (first | (refine hK _ ?_; clear hK K) | (refine ⟨by kernel_rfl, hK _ ?_⟩; clear hK K) | (refine hT ?_; clear hT hF K) | (refine hF ?_; clear hT hF K))) | refine Wp.seq ?_))
      (refine rO0 ?_; try (with_reducible exact True.intro))
      exact .inl ⟨0, rfl, rfl⟩
  | cons f fs =>
    have hb : (fs.length + 1) * 32 ≤ 140737488355328 := by simp at hl; omega
    (refine FunA.of_body Tryd.func23 rfl rfl Tryd.ntmps23 Tryd.results23 (by simp) ?_)
    (repeat (first | refine Wp.skip ?_ | refine Wp.exit ?_ | refine Wp.ret ?_ | refine Wp.block ?_ | refine Wp.label ?_ | ((first | (first | refine Wp.sreg (fun K hK => ?_) | refine Wp.reg (fun K hK => ?_) | refine Wp.sdrw mixed (fun K hK => ?_) | refine Wp.drw mixed (fun K hK => ?_)) | refine Wp.condG (fun K hT hF => ?_)); (refine rO (hb) ?_; try (with_reducible exact True.intro)); (first | (refine hK _ ?_; clear hK K) | (refine ⟨by kernel_rfl, hK _ ?_⟩; clear hK K) | (refine hT ?_; clear hT hF K) | (refine hF ?_; clear hT hF K))) | refine Wp.seq ?_))
    (refine rO0 ?_; try (with_reducible exact True.intro))
    exact .inl ⟨0, rfl, rfl⟩
def copyE (o : OpenD) (i : Nat) (b : BatD) : EntD := if i + 1 = o.bats.length then ⟨3, b, true, lastF o, 0, rowZ, prodZ⟩ else ⟨3, b, false, 0, 0, rowZ, prodZ⟩
def mkL (l : List BatD) (mk : Nat → BatD → EntD) : List EntD := l.zipIdx.map fun (b, i) => mk i b
theorem mkL_len (l : List BatD) (mk : Nat → BatD → EntD) : (mkL l mk).length = l.length := by simp [mkL]
theorem mkL_take (l : List BatD) (mk : Nat → BatD → EntD) (k : Nat) (h : k < l.length) : (mkL l mk).take (k + 1) = (mkL l mk).take k ++ [mk k l[k]] := by
  rw [take_succ_get _ k (by rw [mkL_len]; exact h)]
  simp [mkL]
theorem copy1_fun (o : OpenD) (hs : SmallO o) (i : Nat) (b : BatD) (hi : i < o.bats.length) (hb : b.recs.length ≤ 100000) : Fun Tryd.prog 22 [int i, .agg b.dv, .ptr o.dv 0] (.agg (copyE o i b).dv) := by
  have c1 := (clone_Record (b.recs.map RecD.dv) (by simp; omega)).fun
  have c2 := cpBehind_fun o hs (by omega)
  have hbl := hs.bats
  simp only [OpenD.dv] at c2
  (refine Fun.of_bodyW Tryd.func22 rfl rfl Tryd.ntmps22 Tryd.results22 (by simp) ?_)
  cases hq : decide ((i : Int) = (o.bats.length : Int) - 1) with
  | true =>
    have h1 : i + 1 = o.bats.length := by have := of_decide_eq_true hq; omega
    have h2 : ((i : Int) == (o.bats.length : Int) - 1) = true := by rw [beq_iff_eq]; omega
    (refine gO (And.intro @BatD.dv.eq_1 (And.intro @OpenD.dv.eq_1 (h2))) ?_; try (with_reducible exact True.intro))
    (refine rO (And.intro @copyE.eq_1 (h1)) ?_; try (with_reducible exact True.intro))
    exact ⟨_, rfl, DLe.agg (dvz_le ⟨3, b, true, lastF o, 0, rowZ, prodZ⟩ rfl)⟩
  | false =>
    have h1 : ¬ i + 1 = o.bats.length := by have := of_decide_eq_false hq; omega
    have h2 : ((i : Int) == (o.bats.length : Int) - 1) = false := by rw [beq_eq_false_iff_ne]; omega
    (refine gO (And.intro @BatD.dv.eq_1 (And.intro @OpenD.dv.eq_1 (h2))) ?_; try (with_reducible exact True.intro))
    (refine rO (And.intro @copyE.eq_1 (h1)) ?_; try (with_reducible exact True.intro))
    exact ⟨_, rfl, DLe.agg (dvz_le ⟨3, b, false, 0, 0, rowZ, prodZ⟩ rfl)⟩
abbrev mdS (l : List BatD) (f : Nat) (caps : List D) (mk : Nat → BatD → EntD) (k : Nat) : St := ⟨ofL [(1, .c (.d (.fn (.func f) caps))), (5, .c (.app 0 18 (((mkL l mk).take k).map EntD.dv))), (11, .c (.d (.lst 5 (l.map BatD.dv)))), (12, vi .i64 l.length), (13, vi .i64 k)], ofH [(0, .row 41 18 k)], 1, 27, 0⟩
theorem made_fun (l : List BatD) (f : Nat) (caps : List D) (mk : Nat → BatD → EntD) (hl : l.length ≤ 100000) (hf : ∀ i (h : i < l.length), Fun Tryd.prog f (int i :: .agg l[i].dv :: caps) (.agg (mk i l[i]).dv)) :
    Fun Tryd.prog 21 [.lst 5 (l.map BatD.dv), .fn (.func f) caps] (.lst 18 ((mkL l mk).map EntD.dv)) := by
  have hb0 : 192 * l.length ≤ 140737488355328 := by omega
  (refine Fun.of_body Tryd.func21 rfl rfl Tryd.ntmps21 Tryd.results21 (by simp) ?_)
  (refine gO (hb0) ?_; try (with_reducible exact True.intro))
  refine Wp.loop (mdS l f caps mk) (fun k => k ≤ l.length) (fun k => l.length - k) 0 (Nat.zero_le _) ?_ ?_
  · refine Weak.keep rfl rfl ?_
    (refine rO0 ?_; try (with_reducible exact True.intro))
  intro k hk
  (refine gO0 ?_; try (with_reducible exact True.intro))
  refine Wp.cond (by (refine rO0 ?_; try (with_reducible exact True.intro)); rfl) (fun h => ?_) (fun h => ?_)
  · have hlt : k < l.length := by simpa using h
    have hge : l[k]? = some l[k] := List.getElem?_eq_getElem hlt
    have c1 := hf k hlt
    have htk := mkL_take l mk k hlt
    have htl : ((mkL l mk).take k).length = k := by rw [List.length_take, mkL_len]; omega
    have hb : (k + 1) * 192 ≤ 140737488355328 := by omega
    generalize l[k] = b at *
    generalize mk k b = e at *
    simp only [BatD.dv, EntD.dv] at c1
    (refine gO (And.intro hge (And.intro @BatD.dv.eq_1 (And.intro htl (hb)))) ?_; try (with_reducible exact True.intro))
    refine ⟨k + 1, by omega, by omega, Weak.keep rfl rfl ?_⟩
    (refine rO (And.intro htk (And.intro @List.map_append.{0,0} (@EntD.dv.eq_1))) ?_; try (with_reducible exact True.intro))
  · have hk2 : k = l.length := by simp only [decide_eq_false_iff_not] at h; omega
    have htk : (mkL l mk).take k = mkL l mk := List.take_of_length_le (by rw [mkL_len]; omega)
    (refine gO0 ?_; try (with_reducible exact True.intro))
    (refine rO (htk) ?_; try (with_reducible exact True.intro))
def cpL (o : OpenD) : List EntD := mkL o.bats (copyE o)
def cpF (o : OpenD) : List EntD × Int := if okO o then (cpL o, 0) else ([], 2)
theorem copies_fun (o : OpenD) (hs : SmallO o) : Fun Tryd.prog 7 [.agg o.dv] (.tup [.lst 18 ((cpF o).1.map EntD.dv), int (cpF o).2]) := by
  have c1 := cpCheck_fun o hs
  have c2 := code_err_copying ctxt1 2
  have c3 := code_err_copying ctxt2 2
  have hbl := hs.bats
  simp only [OpenD.dv] at c1
  (refine Fun.of_bodyW Tryd.func7 rfl rfl Tryd.ntmps7 Tryd.results7 (by simp) ?_)
  cases hok : okO o with
  | false =>
    have e1 : cpF o = ([], 2) := by simp only [cpF, hok]; rfl
    rw [e1]
    cases hlb : lenBad o <;> (
      simp only [chkD, hok, hlb, if_true, if_false, Bool.false_eq_true] at c1
      (refine gO (@OpenD.dv.eq_1) ?_; try (with_reducible exact True.intro))
      (refine rO (@List.map_nil.{0,0}) ?_; try (with_reducible exact True.intro))
      exact ⟨_, rfl, DLe.tup (.cons (.nil 18) (.cons (.refl _) .nil))⟩)
  | true =>
    have e1 : cpF o = (cpL o, 0) := by simp only [cpF, hok]; rfl
    rw [e1]
    simp only [chkD, hok, if_true] at c1
    have c4 := made_fun o.bats 22 [.ptr o.dv 0] (copyE o) hbl (fun i h => copy1_fun o hs i o.bats[i] h (hs.recs _ (List.getElem_mem h)))
    simp only [OpenD.dv] at c4
    (refine gO (@OpenD.dv.eq_1) ?_; try (with_reducible exact True.intro))
    (refine Wp.weak (Weak.freeze (id := 0) (by (refine rO0 ?_; try (with_reducible exact True.intro)); rfl) (by (refine rO0 ?_; try (with_reducible exact True.intro)); rfl)) ?_)
    (refine gO (@OpenD.dv.eq_1) ?_; try (with_reducible exact True.intro))
    (refine rO (@cpL.eq_1) ?_; try (with_reducible exact True.intro))
    exact ⟨_, rfl, fun K v h => h⟩
end Go.Proofs.YtafipkbffboebaaDoor
