/- Layer 12's statements: InlineTurns. -/
import Derived.Test.YtafipkbffboebaaGreatDoorRgN
import Derived.Test.YtafipkbffboebaaGreatDoorPlM
import Derived.Test.YtafipkbffboebaaGreatDoorMpL
namespace Go.Proofs.YtafipkbffboebaaGreatDoor
open Go Go.RowKit
set_option maxHeartbeats 8000000
set_option maxRecDepth 100000
set_option linter.unusedVariables false
set_option linter.unusedSimpArgs false
theorem swap_list {α : Type} (a b : α) : ∀ (l : List α) (k : Nat), l[k]? = some a → l[k + 1]? = some b → l = l.take k ++ a :: b :: l.drop (k + 2) ∧ (l.set k b).set (k + 1) a = l.take k ++ b :: a :: l.drop (k + 2)
  | [], k, h, _ => by simp at h
  | [x], 0, _, h => by simp at h
  | x :: y :: l, 0, h, h2 => by simp at h h2; subst h h2; simp
  | x :: l, k + 1, h, h2 => by
    obtain ⟨h3, h4⟩ := swap_list a b l k (by simpa using h) (by simpa using h2)
    constructor
    · rw [List.take_succ_cons, List.drop_succ_cons, List.cons_append, ← h3]
    · rw [List.set_cons_succ, List.set_cons_succ, h4]; rfl
theorem rem_rng (at_ : Int) (m : Int) (hm : 1 ≤ m) : ∃ k : Nat, (at_.tmod m + (m + 1) - 1).tmod m = (k : Int) ∧ (k : Int) < m ∧ -m < at_.tmod m ∧ at_.tmod m < m := by
  have h1 : at_.tmod m < m := Int.tmod_lt_of_pos _ (by omega)
  have h2 : -m < at_.tmod m := by
    rcases Int.le_total 0 at_ with h | h
    · have := Int.tmod_nonneg m h; omega
    · have h3 : (-at_).tmod m < m := Int.tmod_lt_of_pos _ (by omega)
      rw [Int.neg_tmod] at h3; omega
  have h4 : 0 ≤ (at_.tmod m + (m + 1) - 1).tmod m := Int.tmod_nonneg _ (by omega)
  have h5 : (at_.tmod m + (m + 1) - 1).tmod m < m := Int.tmod_lt_of_pos _ (by omega)
  exact ⟨((at_.tmod m + (m + 1) - 1).tmod m).toNat, by omega, by omega, h2, h1⟩
theorem esize_ents : esize Tryz.prog 22 = some (35, 18, 192, [.int .i8 0, .int .i64 0, .int .i64 0, .int .i64 0, .bool false, .slice none 0 0, .bool false, .int .i64 0, .int .i64 0, .int .i64 0, .int .i64 0, .int .i64 0, .string ⟨#[]⟩, .string ⟨#[]⟩, .int .i64 0, .int .i64 0, .int .i64 0, .slice none 0 0]) := by kernel_rfl
theorem Weak.pubEnts {σ : St} {t τ e n : Nat} (m : List EntD) (hτ : σ.H τ = some (.mrow e 18 n ((m.map EntD.dv).flatten.map CV.d))) (ht : σ.env t = .c (.mt τ n)) (hdf : σ.fx.dfs.contains τ = false) :
    Weak σ { σ with env := upd σ.env t (.c (.d (.lst 18 (m.map EntD.dv)))), H := upd σ.H τ (some (.mrow e 18 (n + 1) [])) } := by
  have hx : ∀ x ∈ m.map EntD.dv, x.length = 18 := fun x hx => by obtain ⟨b, _, rfl⟩ := List.mem_map.1 hx; rfl
  have h := Weak.pubSlot hτ (mapO_plain CV.toD0 (fun d => rfl) (m.map EntD.dv).flatten) ht hdf
  rw [List.length_map, flat_len hx, Nat.mul_div_cancel _ (by decide), chunk_flat 18 _ hx] at h
  exact h
def turnNo (a b : EntD) : Bool := a.kind != 0 || !a.b.txn || (b.kind != 0 && b.kind != 1) || a.b.pid == b.b.pid
theorem inlineTurns_fun (l : List EntD) (at_ : Int) (hk : ∀ e ∈ l, -128 ≤ e.kind ∧ e.kind ≤ 127) : Fun Tryz.prog 3 [.lst 18 (l.map EntD.dv), int at_] (boo true) := by
  have cw := wakes12_fun
  have c0 := gAll_fun l
  (refine Fun.of_body Tryz.func3 rfl rfl Tryz.ntmps3 Tryz.results3 (by simp) ?_)
  by_cases h2 : (l.length : Int) < 2
  · have d1 : decide ((l.length : Int) < 2) = true := decide_eq_true h2
    (refine gO (d1) ?_; try (with_reducible exact True.intro))
    (refine rO0 ?_; try (with_reducible exact True.intro))
  have d1 : decide ((l.length : Int) < 2) = false := decide_eq_false h2
  by_cases h3 : (200 : Int) < (l.length : Int)
  · have d2 : decide ((200 : Int) < (l.length : Int)) = true := decide_eq_true h3
    (refine gO (And.intro d1 (d2)) ?_; try (with_reducible exact True.intro))
    (refine rO0 ?_; try (with_reducible exact True.intro))
  have d2 : decide ((200 : Int) < (l.length : Int)) = false := decide_eq_false h3
  cases hg : gAll l with
  | true =>
    rw [hg] at c0
    (refine gO (And.intro d1 (d2)) ?_; try (with_reducible exact True.intro))
    (refine rO0 ?_; try (with_reducible exact True.intro))
  | false =>
    rw [hg] at c0
    obtain ⟨hl, hs⟩ := gAll_in hg
    have hsm : ∀ e ∈ l, SmallEn e := fun e he => ⟨hk e he, by have := (hs e he).1; omega, by have := (hs e he).2; omega⟩
    have c1 := fold_res l (by omega) hsm
    have hm0 : (l.length : Int) - 1 ≠ 0 := by omega
    have hrem : ∀ (t : TypeId) (x y : Operand) (a : Int), aBin Tryz.prog .rem t x y (vi .i64 a) (vi .i64 ((l.length : Int) - 1)) = some (Res.pure (vi .i64 (a.tmod ((l.length : Int) - 1)))) := fun t x y a => bin_rem hm0
    obtain ⟨k, hk1, hk2, hk3, hk4⟩ := rem_rng at_ ((l.length : Int) - 1) (by omega)
    have hw1 : IntKind.i64.wrap ((l.length : Int) - 1) = (l.length : Int) - 1 := wrap_i64 (by omega)
    have hw2 : IntKind.i64.wrap (at_.tmod ((l.length : Int) - 1) + (l.length : Int)) = at_.tmod ((l.length : Int) - 1) + (l.length : Int) := wrap_i64 (by omega)
    have hw3 : IntKind.i64.wrap (at_.tmod ((l.length : Int) - 1) + (l.length : Int) - 1) = at_.tmod ((l.length : Int) - 1) + (l.length : Int) - 1 := wrap_i64 (by omega)
    have hke : (at_.tmod ((l.length : Int) - 1) + (l.length : Int) - 1).tmod ((l.length : Int) - 1) = (k : Int) := by
      rw [← hk1]; congr 1; omega
    have hlt : k < l.length := by omega
    have hlt2 : k + 1 < l.length := by omega
    have g1 : l[k]? = some l[k] := List.getElem?_eq_getElem hlt
    have g2 : l[k + 1]? = some l[k + 1] := List.getElem?_eq_getElem hlt2
    have hwk : IntKind.i64.wrap ((k : Int) + 1) = ((k + 1 : Nat) : Int) := by rw [wrap_i64 (by omega)]; rfl
    have ma : l[k] ∈ l := List.getElem_mem hlt
    have mb : l[k + 1] ∈ l := List.getElem_mem hlt2
    generalize l[k] = a at *
    generalize l[k + 1] = b at *
    obtain ⟨sw1, sw2⟩ := swap_list a b l k g1 g2
    (refine gO (And.intro d1 (And.intro d2 (And.intro hrem (And.intro hw1 (And.intro hw2 (And.intro hw3 (And.intro hke (And.intro hwk (And.intro g1 (And.intro g2 (@EntD.dv.eq_1))))))))))) ?_; try (with_reducible exact True.intro))
    (first | refine Wp.sto 75 (vb (turnNo a b)) ?_ ?_ | refine Wp.rtoS 75 (vb (turnNo a b)) ?_ ?_ | (refine Wp.seq ?_; first | refine Wp.sto 75 (vb (turnNo a b)) ?_ ?_ | refine Wp.rtoS 75 (vb (turnNo a b)) ?_ ?_))
    · unfold turnNo
      cases q1 : (a.kind != 0) <;> cases q2 : a.b.txn <;> cases q3 : (b.kind != 0) <;> cases q4 : (b.kind != 1) <;> cases q5 : (a.b.pid == b.b.pid) <;> (((refine rO (And.intro @EntD.dv.eq_1 (And.intro q1 (And.intro q2 (And.intro q3 (And.intro q4 (q5)))))) ?_; try (with_reducible exact True.intro)); (repeat (refine bcf (by assumption) ?_; (refine rO (And.intro @EntD.dv.eq_1 (And.intro q1 (And.intro q2 (And.intro q3 (And.intro q4 (q5)))))) ?_; try (with_reducible exact True.intro))))); all_goals (exact (show okTr _ _ = true by kernel_rfl)))
    refine Wp.cond (by (refine rO0 ?_; try (with_reducible exact True.intro)); rfl) (fun h => ?_) (fun h => ?_)
    · (refine gO0 ?_; try (with_reducible exact True.intro))
      (refine rO0 ?_; try (with_reducible exact True.intro))
    have hn0 : turnNo a b = false := h
    unfold turnNo at h
    simp only [Bool.or_eq_false_iff, bne_eq_false_iff_eq, Bool.not_eq_false', Bool.and_eq_false_iff, beq_eq_false_iff_ne] at h
    obtain ⟨⟨⟨ha0, hat⟩, hb⟩, hne⟩ := h
    cases hfo : foldP pZ l with
    | none =>
      have hfe : foldE l = 70 := by unfold foldE; rw [hfo]; rfl
      rw [foldR_eq, hfe] at c1
      generalize foldD l = p at *
      simp only [PartD.dv] at c1
      (refine gO0 ?_; try (with_reducible exact True.intro))
      (refine rO0 ?_; try (with_reducible exact True.intro))
    | some p =>
      have hfe : foldE l = 0 := by unfold foldE; rw [hfo]; rfl
      have hfd : foldD l = p := by unfold foldD; rw [hfo]; rfl
      obtain ⟨m, hm⟩ : ∃ m, m = (l.set k b).set (k + 1) a := ⟨_, rfl⟩
      have hml : m.length = l.length := by rw [hm]; simp
      have hmem : ∀ x ∈ m, x ∈ l := fun x hx => by
        rw [hm] at hx
        rcases List.mem_or_eq_of_mem_set hx with hx | rfl
        · rcases List.mem_or_eq_of_mem_set hx with hx | rfl
          · exact hx
          · exact mb
        · exact ma
      have hfm : foldP pZ m = some p := by
        rw [hm, sw2]
        refine turn_fold ha0 hat hb hne ?_
        rw [← sw1]; exact hfo
      have c2 := fold_res m (by omega) (fun e he => hsm e (hmem e he))
      obtain ⟨k1, k2, k3⟩ := foldD_ok (l := l) (by omega)
      rw [hfd] at k1 k2 k3
      have c5 := samePart_fun p p k3 k1 k2
      rw [show decide (p = p) = true by simp] at c5
      have hre : foldR m = p.dv := by rw [foldR_eq]; unfold foldD; rw [hfm]; rfl
      have hfe2 : foldE m = 0 := by unfold foldE; rw [hfm]; rfl
      rw [foldR_eq, hfd, hfe] at c1
      rw [hre, hfe2] at c2
      simp only [PartD.dv] at c1 c2 c5
      have hdl : ∀ x : EntD, x.dv.length = 18 := fun _ => rfl
      have hx : ∀ x ∈ l.map EntD.dv, x.length = 18 := fun x hx => by obtain ⟨b, _, rfl⟩ := List.mem_map.1 hx; rfl
      have hcl : (l.map EntD.dv).flatten.length = l.length * 18 := by rw [flat_len hx, List.length_map]
      (refine gO0 ?_; try (with_reducible exact True.intro))
      (first | refine Wp.sregG ?_ | refine Wp.regG ?_ | (refine Wp.seq ?_; first | refine Wp.sregG ?_ | refine Wp.regG ?_))
      (refine GRun.at 2 (fun K hK => ?_); (refine rO (@GRUN) ?_; try (with_reducible exact True.intro)); refine hK _ ?_; clear hK K)
      refine GRun.appNew (id := 4) (cy := .d (.lst 18 (l.map EntD.dv))) (ys := l.map EntD.dv) rfl esize_ents ⟨by decide, by decide, by decide⟩ ⟨by (refine rO (@GRUN) ?_; try (with_reducible exact True.intro)), by (refine rO (@GRUN) ?_; try (with_reducible exact True.intro)), by (refine rO (@GRUN) ?_; try (with_reducible exact True.intro)), by (refine rO (@GRUN) ?_; try (with_reducible exact True.intro)), by (refine rO (@GRUN) ?_; try (with_reducible exact True.intro)), ?_, ?_, by (refine rO (@GRUN) ?_; try (with_reducible exact True.intro)), rfl⟩ ?_
      · intro e; have := congrArg List.length e; simp only [List.length_map, List.length_nil] at this; omega
      · rw [List.length_map]; omega
      have hcd : ∀ x : EntD, [CV.d (i8 x.kind), .d (int x.b.pid), .d (int x.b.epoch), .d (int x.b.seq), .d (boo x.b.txn), .d (.lst 2 (x.b.recs.map RecD.dv)), .d (boo x.yes), .d (int x.next), .d (int x.off), .d (int x.row.off), .d (int x.row.pid), .d (int x.row.seq), .d (str x.row.key), .d (str x.row.value), .d (int x.prod.pid), .d (int x.prod.epoch), .d (int x.prod.next), .d (.lst 3 (x.prod.seen.map SeenD.dv))] = x.dv.map CV.d := fun _ => rfl
      obtain ⟨C1, hC1⟩ : ∃ C1, C1 = ((l.set k b).map EntD.dv).flatten.map CV.d := ⟨_, rfl⟩
      obtain ⟨C2, hC2⟩ : ∃ C2, C2 = (m.map EntD.dv).flatten.map CV.d := ⟨_, rfl⟩
      have hx1 : ∀ y : List EntD, ∀ x ∈ y.map EntD.dv, x.length = 18 := fun y x hx => by obtain ⟨b, _, rfl⟩ := List.mem_map.1 hx; rfl
      have hs1 := set_flat EntD.dv 18 hdl l k b hlt
      have hs2 := set_flat EntD.dv 18 hdl (l.set k b) (k + 1) a (by rw [List.length_set]; exact hlt2)
      rw [← hC1] at hs1
      rw [← hC1, ← hm, ← hC2] at hs2
      have hl1 : C1.length = l.length * 18 := by rw [hC1, List.length_map, flat_len (hx1 _), List.length_map, List.length_set]
      generalize hC : List.map CV.d (List.map EntD.dv l).flatten = C at *
      have hl0 : C.length = l.length * 18 := by rw [← hC, List.length_map, hcl]
      unfold splice at hs1 hs2
      rw [← hcd, show ([CV.d (i8 b.kind), .d (int b.b.pid), .d (int b.b.epoch), .d (int b.b.seq), .d (boo b.b.txn), .d (.lst 2 (b.b.recs.map RecD.dv)), .d (boo b.yes), .d (int b.next), .d (int b.off), .d (int b.row.off), .d (int b.row.pid), .d (int b.row.seq), .d (str b.row.key), .d (str b.row.value), .d (int b.prod.pid), .d (int b.prod.epoch), .d (int b.prod.next), .d (.lst 3 (b.prod.seen.map SeenD.dv))] : List CV).length = 18 from rfl] at hs1
      rw [← hcd, show ([CV.d (i8 a.kind), .d (int a.b.pid), .d (int a.b.epoch), .d (int a.b.seq), .d (boo a.b.txn), .d (.lst 2 (a.b.recs.map RecD.dv)), .d (boo a.yes), .d (int a.next), .d (int a.off), .d (int a.row.off), .d (int a.row.pid), .d (int a.row.seq), .d (str a.row.key), .d (str a.row.value), .d (int a.prod.pid), .d (int a.prod.epoch), .d (int a.prod.next), .d (.lst 3 (a.prod.seen.map SeenD.dv))] : List CV).length = 18 from rfl] at hs2
      have hf1 : k * 18 + 18 ≤ l.length * 18 := by omega
      have hf2 : (k + 1) * 18 + 18 ≤ l.length * 18 := by omega
      (refine GRun.done (fun K hK => ?_); (refine rO (@GRUN) ?_; try (with_reducible exact True.intro)); refine hK _ ?_; clear hK K)
      (refine gO (And.intro @EntD.dv.eq_1 (And.intro hl0 (And.intro hl1 (And.intro hs1 (And.intro hs2 (And.intro hf1 (And.intro hf2 (hwk)))))))) ?_; try (with_reducible exact True.intro))
      refine Wp.weak (Weak.pubEnts (t := 10) (τ := 4) (e := 35) (n := 1) m (by (refine rO0 ?_; try (with_reducible exact True.intro)); rw [hC2]) (by (refine rO0 ?_; try (with_reducible exact True.intro))) rfl) ?_
      (refine gO (@PartD.dv.eq_1) ?_; try (with_reducible exact True.intro))
      (refine rO0 ?_; try (with_reducible exact True.intro))
end Go.Proofs.YtafipkbffboebaaGreatDoor
