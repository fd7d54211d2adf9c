/- Package inline: early. -/
import Derived.Test.YtafipkbffboebaaGreatDoorRgN
import Derived.Test.YtafipkbffboebaaGreatDoorPlM
namespace Go.Proofs.YtafipkbffboebaaGreatDoor
open Go Go.RowKit
set_option maxHeartbeats 8000000
set_option maxRecDepth 100000
set_option linter.unusedVariables false
set_option linter.unusedSimpArgs false
abbrev qB (q : ProdD) : List (Nat × HE) := [(0, .cells (q.dv.map .d))]
theorem early1_fun (o : OpenD) (q : ProdD) : FunG Tryz.prog 97 [.agg (o.dv.map CV.d), .c (.own 0 0)] [0] (ofH (qB q)) (.c (.d (boo (decide (q.pid ≤ o.pid))))) [0] (ofH (qB q)) := by
  (refine FunG.of_bodyH rfl rfl Tryz.func97 rfl rfl Tryz.ntmps97 Tryz.results97 (Nat.le_of_ble_eq_true rfl) rfl ?_)
  (refine gO (And.intro @GRUN (And.intro @OpenD.dv.eq_1 (And.intro @ProdD.dv.eq_1 (And.intro @List.map_cons.{0,0} (@List.map_nil.{0,0}))))) ?_; try (with_reducible exact True.intro))
  refine bodyQG.ret ?_
  (refine rO (And.intro @GRUN (And.intro @endB.eq_1 (And.intro @endB.eq_2 (And.intro @ProdD.dv.eq_1 (And.intro @List.map_cons.{0,0} (@List.map_nil.{0,0})))))) ?_; try (with_reducible exact True.intro))
theorem reachE_fun (l : List OpenD) (q : ProdD) (hl : l.length ≤ 100000) : FunG Tryz.prog 98 [.c (.d (.lst 3 (l.map OpenD.dv))), .c (.clo (.func 97) [.own 0 0])] [0] (ofH (qB q)) (.c (.d (int (openI l q.pid : Nat)))) [0] (ofH (qB q)) := by
  have hile := openI_le l q.pid
  (refine FunG.of_bodyH rfl rfl Tryz.func98 rfl rfl Tryz.ntmps98 Tryz.results98 (Nat.le_of_ble_eq_true rfl) rfl ?_)
  (refine gO (@GRUN) ?_; try (with_reducible exact True.intro))
  refine Wp.loop (fun k : Nat => ⟨ofL [(0, .c (.d (.lst 3 (l.map OpenD.dv)))), (1, .c (.clo (.func 97) [.own 0 0])), (7, .c (.d (.lst 3 (l.map OpenD.dv)))), (8, vi .i64 l.length), (9, vi .i64 k)], ofH (qB q), 1000, 21, ⟨[0], [], false, none⟩⟩) (fun k => k ≤ openI l q.pid) (fun k => l.length - k) 0 (Nat.zero_le _) ?_ ?_
  · refine Weak.keep rfl rfl ?_
    (refine rO (@GRUN) ?_; try (with_reducible exact True.intro))
  intro k hk
  by_cases hkl : k < l.length
  rotate_left
  · have hke : openI l q.pid = k := by omega
    have d1 : decide ((k : Int) < (l.length : Int)) = false := decide_eq_false (by omega)
    have hkk : (l.length : Int) = (k : Int) := by omega
    rw [hke]
    have dkk : decide ((k : Int) < (k : Int)) = false := by simp
    (refine gO (And.intro @GRUN (And.intro d1 (And.intro hkk (dkk)))) ?_; try (with_reducible exact True.intro))
    refine bodyQG.ret ?_
    (refine rO (And.intro @GRUN (And.intro @endB.eq_1 (@endB.eq_2))) ?_; try (with_reducible exact True.intro))
  have d1 : decide ((k : Int) < (l.length : Int)) = true := decide_eq_true (by omega)
  have hge : l[k]? = some l[k] := List.getElem?_eq_getElem hkl
  have hwk : IntKind.i64.wrap ((k : Int) + 1) = ((k + 1 : Nat) : Int) := by rw [wrap_i64 (by omega)]; rfl
  have c1 := early1_fun l[k] q
  have hlt : k < openI l q.pid → decide (q.pid ≤ l[k].pid) = false := fun h => by
    obtain ⟨_, h2⟩ := openI_lt h
    exact decide_eq_false (by omega)
  have hgt : ¬ k < openI l q.pid → decide (q.pid ≤ l[k].pid) = true := fun h => by
    have hke : openI l q.pid = k := by omega
    have hg := openI_ge (l := l) (pid := q.pid) (by rw [hke]; exact hkl)
    simp only [hke] at hg
    exact decide_eq_true hg
  generalize l[k] = o at *
  obtain ⟨B, hB⟩ : ∃ B, B = decide (q.pid ≤ o.pid) := ⟨_, rfl⟩
  rw [← hB] at c1 hlt hgt
  simp only [OpenD.dv, List.map_cons, List.map_nil] at c1
  (refine gO (And.intro @GRUN (And.intro d1 (And.intro hge (@OpenD.dv.eq_1)))) ?_; try (with_reducible exact True.intro))
  (first | refine Wp.sregG ?_ | refine Wp.regG ?_ | (refine Wp.seq ?_; first | refine Wp.sregG ?_ | refine Wp.regG ?_))
  (refine GRun.at 2 (fun K hK => ?_); (refine rO (@GRUN) ?_; try (with_reducible exact True.intro)); refine hK _ ?_; clear hK K)
  (refine GRun.call (c1) [] 1001 rfl rfl ?_ ?_; (focus ((refine rOs (And.intro @HEREN (And.intro @GRUN (And.intro @ProdD.dv.eq_1 (And.intro @List.map_cons.{0,0} (@List.map_nil.{0,0}))))) ?_; try (with_reducible exact True.intro)); done)))
  (refine GRun.done (fun K hK => ?_); (refine rOs (And.intro @GRUN (And.intro @putB.eq_1 (And.intro @putB.eq_2 (And.intro @HEREN (And.intro @ProdD.dv.eq_1 (And.intro @List.map_cons.{0,0} (@List.map_nil.{0,0}))))))) ?_; try (with_reducible exact True.intro)); refine hK _ ?_; clear hK K)
  refine Wp.cond (by (refine rO0 ?_; try (with_reducible exact True.intro)); rfl) (fun h => ?_) (fun h => ?_)
  · have hke : openI l q.pid = k := by
      rcases Nat.lt_or_ge k (openI l q.pid) with h2 | h2
      · rw [hlt h2] at h; cases h
      · omega
    rw [hke]
    (refine gO (@GRUN) ?_; try (with_reducible exact True.intro))
    refine bodyQG.ret ?_
    (refine rO (And.intro @GRUN (And.intro @endB.eq_1 (And.intro @endB.eq_2 (And.intro @ProdD.dv.eq_1 (And.intro @List.map_cons.{0,0} (@List.map_nil.{0,0})))))) ?_; try (with_reducible exact True.intro))
  · have hki : k < openI l q.pid := by
      rcases Nat.lt_or_ge k (openI l q.pid) with h2 | h2
      · exact h2
      · rw [hgt (by omega)] at h; cases h
    (refine gO (@GRUN) ?_; try (with_reducible exact True.intro))
    refine ⟨k + 1, hki, by omega, Weak.keep rfl rfl ?_⟩
    (refine rO (And.intro @GRUN (And.intro hwk (And.intro @ProdD.dv.eq_1 (And.intro @List.map_cons.{0,0} (@List.map_nil.{0,0}))))) ?_; try (with_reducible exact True.intro))
def opnB (l : List OpenD) (pid : Int) : Bool := match getO pid l with
  | some o => decide (0 < o.bats.length)
  | none => false
def keepS (l : List OpenD) (q : ProdD) (n : Int) (s : SeenD) : Bool := !opnB l q.pid || decide (s.seq < n)
/-- What stands in q when its seen ones are gone through. -/
def earlyN (l : List OpenD) (q : ProdD) : Int := match getO q.pid l with
  | some o => (match o.bats with
    | b :: _ => b.seq
    | [] => q.next)
  | none => q.next
theorem early_eq (l : List OpenD) (q : ProdD) : earlyF l q = ⟨q.pid, q.epoch, earlyN l q, q.seen.filter (keepS l q (earlyN l q))⟩ := by
  have hf : q.seen.filter (fun _ => true) = q.seen := List.filter_eq_self.2 (fun _ _ => rfl)
  unfold earlyF earlyN keepS opnB
  cases hg : getO q.pid l with
  | none => simp only [Bool.not_false, Bool.true_or, hf]
  | some o =>
    cases hb : o.bats with
    | nil => simp only [hb, List.length_nil, Nat.lt_irrefl, decide_false, Bool.not_false, Bool.true_or, hf]
    | cons b r => simp [hb]
theorem filter_snoc {α : Type} (pr : α → Bool) (l : List α) (k : Nat) (h : k < l.length) : (l.take (k + 1)).filter pr = (l.take k).filter pr ++ (if pr l[k] then [l[k]] else []) := by
  rw [List.take_succ_eq_append_getElem h, List.filter_append]
  cases hp : pr l[k] <;> simp [hp]
theorem opnB_eq (l : List OpenD) (pid : Int) : opnB l pid = match l[openI l pid]? with
    | some o => (o.pid == pid && decide (0 < (o.bats.length : Int)))
    | none => false := by
  unfold opnB
  rw [getO_eq]
  unfold openB
  cases h : l[openI l pid]? with
  | none => rfl
  | some o =>
    cases h2 : (o.pid == pid) <;> simp [h2]
theorem early_case (l : List OpenD) (q : ProdD) : (opnB l q.pid = false ∧ earlyN l q = q.next) ∨ (opnB l q.pid = true ∧ ∃ o b r, l[openI l q.pid]? = some o ∧ o.bats = b :: r ∧ earlyN l q = b.seq) := by
  unfold opnB earlyN
  rcases @openB_getO l q.pid with ⟨_, o, h1, h2⟩ | ⟨_, h2⟩
  · rw [h2]
    cases hb : o.bats with
    | nil => left; simp [hb]
    | cons b r => right; exact ⟨by simp [hb], o, b, r, h1, hb, by simp [hb]⟩
  · rw [h2]; left; exact ⟨rfl, rfl⟩
theorem early_fun (q : ProdD) (l : List OpenD) (hl : l.length ≤ 100000) (hq : q.seen.length ≤ 100000) : Fun Tryz.prog 46 [.agg q.dv, .lst 3 (l.map OpenD.dv)] (.agg (earlyF l q).dv) := by
  have c1 := reachE_fun l q hl
  rw [early_eq]
  obtain ⟨B, hB⟩ : ∃ B, B = opnB l q.pid := ⟨_, rfl⟩
  obtain ⟨n, hn⟩ : ∃ n, n = earlyN l q := ⟨_, rfl⟩
  have hcase := early_case l q
  have hkeep : ∀ s, keepS l q n s = (!B || decide (s.seq < n)) := fun s => by unfold keepS; rw [hB]
  rw [← hB, ← hn] at hcase
  rw [← hn]
  (refine Fun.of_bodyW Tryz.func46 rfl rfl Tryz.ntmps46 Tryz.results46 (by simp) ?_)
  (repeat (first | apply Wp.skip | apply Wp.exit | apply Wp.ret | apply Wp.block | apply Wp.label | ((first | refine Wp.sreg (fun K hK => ?_) | refine Wp.reg (fun K hK => ?_) | refine Wp.sdrw mixed (fun K hK => ?_) | refine Wp.drw mixed (fun K hK => ?_) | refine Wp.condG (fun K hK hF => ?_)); (repeat (revert hK; intro hK; simp (maxSteps := 2000000) (disch := omega) only [RUN, TY, RUNB, aop, ofV, SV.ofD, aLd, aSt, aFd, aPt, aLen, aSl, aIf, aMF, aXt, aBu, aCX, aCL, aCy, CV.exact, CV.lstOf, CV.lenOf, CV.one, D.one, Value.oneCell', CV.toD0, iFl, oWn, pLk, nD0, rD0, bQ0, tQ0, kQ0, reduceCtorEq, reduceIte, Nat.reduceBEq, Nat.reduceEqDiff, Nat.reduceAdd, Nat.reduceMul, Nat.reduceSub, Nat.reduceLT, Nat.reduceLeDiff, Nat.reduceBNe, Int.reduceLE, Int.reduceLT, Int.reduceBEq, Int.reduceBNe, Int.reduceEq, Int.reduceNeg, Int.reduceAdd, Int.reduceSub, Int.reduceToNat, forall_const, ProdD.dv, capG]; (first | (refine hK _ ?_; clear hK K) | (refine ⟨by kernel_rfl, hK _ ?_⟩; clear hK K) | (refine hK ?_; clear hK hF K) | (refine hF ?_; clear hK hF K) | refine bcf (by assumption) ?_ | refine bca (by assumption) ?_))); fail_if_success (revert hK; intro hK)) | apply Wp.seq))
  (first | refine Wp.sregG ?_ | refine Wp.regG ?_ | (refine Wp.seq ?_; first | refine Wp.sregG ?_ | refine Wp.regG ?_))
  (refine GRun.at 2 (fun K hK => ?_); (refine rO (@GRUN) ?_; try (with_reducible exact True.intro)); refine hK _ ?_; clear hK K)
  (refine GRun.call (c1) [] 100 rfl rfl ?_ ?_; (focus ((refine rOs (And.intro @HEREN (And.intro @GRUN (And.intro @Cap.ren.eq_1 (And.intro @Cap.ren.eq_2 (And.intro @ProdD.dv.eq_1 (And.intro @List.map_cons.{0,0} (@List.map_nil.{0,0}))))))) ?_; try (with_reducible exact True.intro)); done)))
  (refine GRun.done (fun K hK => ?_); (refine rOs (And.intro @GRUN (And.intro @putB.eq_1 (And.intro @putB.eq_2 (And.intro @HEREN (And.intro @ProdD.dv.eq_1 (And.intro @List.map_cons.{0,0} (@List.map_nil.{0,0}))))))) ?_; try (with_reducible exact True.intro)); refine hK _ ?_; clear hK K)
  (refine gO0 ?_; try (with_reducible exact True.intro))
  (first | refine Wp.stoD 7 (vb B) mixed ?_ ?_ | refine Wp.rtoDS 7 (vb B) mixed ?_ ?_ | (refine Wp.seq ?_; first | refine Wp.stoD 7 (vb B) mixed ?_ ?_ | refine Wp.rtoDS 7 (vb B) mixed ?_ ?_))
  · rw [hB, opnB_eq]
    have hle := openI_le l q.pid
    rcases Nat.lt_or_ge (openI l q.pid) l.length with h1 | h1
    · have d1 : decide (((openI l q.pid : Nat) : Int) < (l.length : Int)) = true := decide_eq_true (by omega)
      have hge : l[openI l q.pid]? = some l[openI l q.pid] := List.getElem?_eq_getElem h1
      rw [hge]
      generalize l[openI l q.pid] = o at *
      cases q1 : (o.pid == q.pid) <;> cases q2 : decide (0 < (o.bats.length : Int)) <;> (((refine rO (And.intro d1 (And.intro hge (And.intro @OpenD.dv.eq_1 (And.intro @ProdD.dv.eq_1 (And.intro q1 (q2)))))) ?_; try (with_reducible exact True.intro)); (repeat (refine bcf (by assumption) ?_; (refine rO (And.intro d1 (And.intro hge (And.intro @OpenD.dv.eq_1 (And.intro @ProdD.dv.eq_1 (And.intro q1 (q2)))))) ?_; try (with_reducible exact True.intro))))); all_goals (exact (show okTr _ _ = true by kernel_rfl)))
    · have d1 : decide (((openI l q.pid : Nat) : Int) < (l.length : Int)) = false := decide_eq_false (by omega)
      rw [List.getElem?_eq_none h1]
      ((refine rO (And.intro d1 (@ProdD.dv.eq_1)) ?_; try (with_reducible exact True.intro)); (repeat (refine bcf (by assumption) ?_; (refine rO (And.intro d1 (@ProdD.dv.eq_1)) ?_; try (with_reducible exact True.intro)))))
      all_goals (exact (show okTr _ _ = true by kernel_rfl))
  refine Wp.meet ⟨ofL [(2, .c (.own 0 0)), (4, .c (.own 1 0)), (7, vb B)], ofH [(0, .cells [.d (int q.pid), .d (int q.epoch), .d (int n), .d (.lst 3 (q.seen.map SeenD.dv))]), (1, .cells [.d (int 0), .d (int 0), .d (int 0), .d nilV])], 2, 72, 0⟩ ?_ ?_
  · rcases hcase with ⟨hb, hn2⟩ | ⟨hb, o, b, r, hg, hbt, hn2⟩
    · rw [hb, hn2]
      (refine gO0 ?_; try (with_reducible exact True.intro))
      refine Weak.keep rfl rfl ?_
      (refine rO (And.intro @ProdD.dv.eq_1 (And.intro @List.map_cons.{0,0} (@List.map_nil.{0,0}))) ?_; try (with_reducible exact True.intro))
    · have hle := openI_le l q.pid
      have h1 : openI l q.pid < l.length := by
        rcases Nat.lt_or_ge (openI l q.pid) l.length with h | h
        · exact h
        · rw [List.getElem?_eq_none h] at hg; cases hg
      rw [hb, hn2]
      (refine gO (And.intro hg (And.intro @OpenD.dv.eq_1 (And.intro hbt (And.intro @BatD.dv.eq_1 (And.intro @ProdD.dv.eq_1 (And.intro @List.map_cons.{0,0} (@List.map_nil.{0,0}))))))) ?_; try (with_reducible exact True.intro))
      refine Weak.keep rfl rfl ?_
      (refine rO (And.intro @ProdD.dv.eq_1 (And.intro @List.map_cons.{0,0} (@List.map_nil.{0,0}))) ?_; try (with_reducible exact True.intro))
  (refine gO0 ?_; try (with_reducible exact True.intro))
  refine Wp.weak (Weak.nilApp (t := 8) (τ := 2) 125 3 (by (refine rO0 ?_; try (with_reducible exact True.intro))) (by (refine rO0 ?_; try (with_reducible exact True.intro)))) ?_
  refine Wp.loop (fun k : Nat => ⟨ofL [(2, .c (.own 0 0)), (4, .c (.own 1 0)), (7, vb B), (8, .c (.app 2 3 (((q.seen.take k).filter (keepS l q n)).map SeenD.dv))), (49, .c (.d (.lst 3 (q.seen.map SeenD.dv)))), (50, vi .i64 q.seen.length), (51, vi .i64 k)], ofH [(0, .cells [.d (int q.pid), .d (int q.epoch), .d (int n), .d (.lst 3 (q.seen.map SeenD.dv))]), (1, .cells [.d (int 0), .d (int 0), .d (int 0), .d nilV]), (2, .row 125 3 ((q.seen.take k).filter (keepS l q n)).length)], 3, 72, 0⟩) (fun k => k ≤ q.seen.length) (fun k => q.seen.length - k) 0 (Nat.zero_le _) ?_ ?_
  · refine Weak.keep rfl rfl ?_
    (refine rO (And.intro @List.take_zero.{0} (And.intro @List.filter_nil.{0} (And.intro @List.map_cons.{0,0} (And.intro @List.map_nil.{0,0} (@List.length_nil.{0}))))) ?_; try (with_reducible exact True.intro))
  intro k hk
  by_cases hkl : k < q.seen.length
  · have d1 : decide ((k : Int) < (q.seen.length : Int)) = true := decide_eq_true (by omega)
    have hge : q.seen[k]? = some q.seen[k] := List.getElem?_eq_getElem hkl
    have hs := filter_snoc (keepS l q n) q.seen k hkl
    rw [hkeep] at hs
    have hle : ((q.seen.take k).filter (keepS l q n)).length ≤ 100000 := by
      have h3 := List.length_filter_le (keepS l q n) (q.seen.take k)
      rw [List.length_take] at h3; omega
    have hwk : IntKind.i64.wrap ((k : Int) + 1) = ((k + 1 : Nat) : Int) := by rw [wrap_i64 (by omega)]; rfl
    generalize q.seen[k] = s at *
    generalize (q.seen.take k).filter (keepS l q n) = L at *
    have hb : (L.length + 1) * 24 ≤ 140737488355328 := by omega
    obtain ⟨c, hc⟩ : ∃ c, c = (!B || decide (s.seq < n)) := ⟨_, rfl⟩
    rw [← hc] at hs
    (refine gO (And.intro d1 (And.intro hge (@SeenD.dv.eq_1))) ?_; try (with_reducible exact True.intro))
    (first | refine Wp.sto 63 (vb c) ?_ ?_ | refine Wp.rtoS 63 (vb c) ?_ ?_ | (refine Wp.seq ?_; first | refine Wp.sto 63 (vb c) ?_ ?_ | refine Wp.rtoS 63 (vb c) ?_ ?_))
    · rw [hc]
      cases B with
      | false =>
        ((refine rO (And.intro hge (@SeenD.dv.eq_1)) ?_; try (with_reducible exact True.intro)); (repeat (refine bcf (by assumption) ?_; (refine rO (And.intro hge (@SeenD.dv.eq_1)) ?_; try (with_reducible exact True.intro)))))
      | true =>
        cases q1 : decide (s.seq < n) <;> ((refine rO (And.intro hge (And.intro @SeenD.dv.eq_1 (q1))) ?_; try (with_reducible exact True.intro)); (repeat (refine bcf (by assumption) ?_; (refine rO (And.intro hge (And.intro @SeenD.dv.eq_1 (q1))) ?_; try (with_reducible exact True.intro)))))
    cases c with
    | true =>
      (refine gO (And.intro hge (And.intro @SeenD.dv.eq_1 (And.intro hb (@List.length_map.{0,0})))) ?_; try (with_reducible exact True.intro))
      refine ⟨k + 1, hkl, by omega, Weak.keep rfl rfl ?_⟩
      rw [hs]
      (refine rO (And.intro hwk (And.intro @SeenD.dv.eq_1 (And.intro @List.map_append.{0,0} (And.intro @List.map_cons.{0,0} (And.intro @List.map_nil.{0,0} (And.intro @List.length_append.{0} (And.intro @List.length_cons.{0} (And.intro @List.length_nil.{0} (And.intro @Nat.zero_add (@if_true.{1})))))))))) ?_; try (with_reducible exact True.intro))
    | false =>
      rw [if_neg Bool.false_ne_true, List.append_nil] at hs
      (refine gO0 ?_; try (with_reducible exact True.intro))
      refine ⟨k + 1, hkl, by omega, Weak.keep rfl rfl ?_⟩
      rw [hs]
      (refine rO (And.intro hwk (And.intro @SeenD.dv.eq_1 (And.intro @List.map_cons.{0,0} (@List.map_nil.{0,0})))) ?_; try (with_reducible exact True.intro))
  · have hke : k = q.seen.length := by omega
    subst hke
    rw [List.take_length]
    have d1 : decide ((q.seen.length : Int) < (q.seen.length : Int)) = false := by simp
    (refine gO (And.intro d1 (@ProdD.dv.eq_1)) ?_; try (with_reducible exact True.intro))
    (refine rO (@ProdD.dv.eq_1) ?_; try (with_reducible exact True.intro))
    exact ⟨_, rfl, fun _ _ h => h⟩
end Go.Proofs.YtafipkbffboebaaGreatDoor
