/- Layer 13's statements: some, wakes; plain facts. -/
import Derived.Test.YtijnajohkljonaaDoorReD
import Derived.Test.YtijnajohkljonaaDoorRfA
namespace Go.Proofs.YtijnajohkljonaaDoor
open Go Go.RowKit
set_option maxHeartbeats 4000000
set_option maxRecDepth 100000
set_option linter.unusedVariables false
set_option linter.unusedSimpArgs false
def someP : PartD := ⟨0, 10, [⟨2, 1, 0, [], []⟩, ⟨4, 1, 1, [], []⟩, ⟨5, 1, 2, [], []⟩, ⟨9, 1, 3, [], []⟩], [], []⟩
theorem zeroPart {K : Know} {v : Value} {a b : Int} {x : D} (h : Rep K (.agg [int a, int b, x, nilV, nilV]) v) : Rep K (.agg [int a, int b, x, .lst 3 [], .lst 4 []]) v := by
  cases h with
  | agg hl hv h1 =>
    refine .agg hl (fun j x v hx hvv => ?_) h1
    match j with
    | 0 => exact hv 0 x v hx hvv
    | 1 => exact hv 1 x v hx hvv
    | 2 => exact hv 2 x v hx hvv
    | 3 =>
      have := hv 3 _ v rfl hvv
      simp only [List.getElem?_cons_succ, List.getElem?_cons_zero, Option.some.injEq] at hx
      subst hx; cases this; exact rep_nil _ _
    | 4 =>
      have := hv 4 _ v rfl hvv
      simp only [List.getElem?_cons_succ, List.getElem?_cons_zero, Option.some.injEq] at hx
      subst hx; cases this; exact rep_nil _ _
    | j + 5 => simp at hx
theorem some_fun : Fun Tryd.prog 74 [] (.agg someP.dv) := by
  (refine Fun.of_bodyW Tryd.func74 rfl rfl Tryd.ntmps74 Tryd.results74 (by simp) ?_)
  (repeat (first | refine Wp.skip ?_ | refine Wp.exit ?_ | refine Wp.ret ?_ | refine Wp.block ?_ | refine Wp.label ?_ | ((first | (first | refine Wp.sreg (fun K hK => ?_) | refine Wp.reg (fun K hK => ?_) | refine Wp.sdrw mixed (fun K hK => ?_) | refine Wp.drw mixed (fun K hK => ?_)) | refine Wp.condG (fun K hT hF => ?_)); (repeat ((first | (have hX := hK; clear hX) | (have hX := hT; clear hX)); simp (maxSteps := 2000000) (disch := omega) only [RUN, TY, bops, bgd, bgo, bres, bdst, guardB, aop, evalS, ofV, SV.ofD, Res.pure, aAlloc, aBox, aLoad, aStore, ldv, aField, aPart, aIndexAddr, aLen, aSlice, aBuild, aBuildSlice, afill, placeS, aIface, aMakeFunc, aExtract, abuiltin, aAppend, SV.exact, CV.exact, SV.nat, CV.lstOf, CV.lenOf, SV.cells, CV.one, D.one, Value.oneCell', mapO, CV.toD0, CV.toD, SV.toD, splice, chunk, zrow, onat, isFull, capD, ownId, ptrLike, nilD, retV, retD, bodyQ, thenQ, blockQ, dsts, reduceCtorEq, reduceIte, if_true, if_false, ite_true, ite_false, Nat.reduceBEq, Nat.reduceEqDiff, Nat.reduceAdd, Nat.reduceMul, Nat.reduceSub, Nat.reduceLT, Nat.reduceLeDiff, Nat.reduceBNe, Int.reduceLE, Int.reduceLT, Int.reduceBEq, Int.reduceBNe, Int.reduceEq, Int.reduceNeg, Int.reduceAdd, Int.reduceSub, Int.reduceToNat, ne_eq, true_implies, false_implies, forall_const, implies_true, exists_eq_left, exists_eq_left', eq_self, undef, eqL, eqH, toNat_k1, nonneg_k1, Int.add_sub_cancel, Int.cast_ofNat_Int, entryY_env, entryY_H, entryY_nx, entryY_sz, entryY_fx, ofHB_cons, ofHB_nil, rb_upd, baseIs_upd, setP_cons, setP_nil, roundS, afterS, fxR]; (first | (first | (refine hK _ ?_; clear hK K) | (refine ⟨by kernel_rfl, hK _ ?_⟩; clear hK K) | (refine hT ?_; clear hT hF K) | (refine hF ?_; clear hT hF K)) | refine bcall_f (by assumption) ?_))); fail_if_success (first | (have hX := hK; clear hX) | (have hX := hT; clear hX))) | refine Wp.seq ?_))
  simp (maxSteps := 2000000) (disch := omega) only [RUN, TY, bops, bgd, bgo, bres, bdst, guardB, aop, evalS, ofV, SV.ofD, Res.pure, aAlloc, aBox, aLoad, aStore, ldv, aField, aPart, aIndexAddr, aLen, aSlice, aBuild, aBuildSlice, afill, placeS, aIface, aMakeFunc, aExtract, abuiltin, aAppend, SV.exact, CV.exact, SV.nat, CV.lstOf, CV.lenOf, SV.cells, CV.one, D.one, Value.oneCell', mapO, CV.toD0, CV.toD, SV.toD, splice, chunk, zrow, onat, isFull, capD, ownId, ptrLike, nilD, retV, retD, bodyQ, thenQ, blockQ, dsts, reduceCtorEq, reduceIte, if_true, if_false, ite_true, ite_false, Nat.reduceBEq, Nat.reduceEqDiff, Nat.reduceAdd, Nat.reduceMul, Nat.reduceSub, Nat.reduceLT, Nat.reduceLeDiff, Nat.reduceBNe, Int.reduceLE, Int.reduceLT, Int.reduceBEq, Int.reduceBNe, Int.reduceEq, Int.reduceNeg, Int.reduceAdd, Int.reduceSub, Int.reduceToNat, ne_eq, true_implies, false_implies, forall_const, implies_true, exists_eq_left, exists_eq_left', eq_self, undef, eqL, eqH, toNat_k1, nonneg_k1, Int.add_sub_cancel, Int.cast_ofNat_Int, entryY_env, entryY_H, entryY_nx, entryY_sz, entryY_fx, ofHB_cons, ofHB_nil, rb_upd, baseIs_upd, setP_cons, setP_nil, roundS, afterS, fxR, bodyW, PartD.dv, someP, RowD.dv]
  exact ⟨_, rfl, fun K v h => zeroPart h⟩
theorem wakes13_fun : Fun Tryd.prog 24 [] (boo true) := by
  have c1 := some_fun
  have c2 := FetchT_fun someP 3 2 ⟨by decide, by decide⟩
  have c3 := FetchT_fun someP 6 9 ⟨by decide, by decide⟩
  have e2 : FetchF someP 3 2 true = ([⟨4, 1, 1, [], []⟩, ⟨5, 1, 2, [], []⟩], 6, 0) := by decide +kernel
  have e3 : FetchF someP 6 9 true = ([⟨9, 1, 3, [], []⟩], 10, 0) := by decide +kernel
  rw [e2] at c2
  rw [e3] at c3
  simp only [PartD.dv, someP, RowD.dv, List.map_cons, List.map_nil] at c1 c2 c3
  (refine Fun.of_body Tryd.func24 rfl rfl Tryd.ntmps24 Tryd.results24 (by simp) ?_)
  (repeat (first | refine Wp.skip ?_ | refine Wp.exit ?_ | refine Wp.ret ?_ | refine Wp.block ?_ | refine Wp.label ?_ | ((first | (first | refine Wp.sreg (fun K hK => ?_) | refine Wp.reg (fun K hK => ?_) | refine Wp.sdrw mixed (fun K hK => ?_) | refine Wp.drw mixed (fun K hK => ?_)) | refine Wp.condG (fun K hT hF => ?_)); (repeat ((first | (have hX := hK; clear hX) | (have hX := hT; clear hX)); simp (maxSteps := 2000000) (disch := omega) only [RUN, TY, bops, bgd, bgo, bres, bdst, guardB, aop, evalS, ofV, SV.ofD, Res.pure, aAlloc, aBox, aLoad, aStore, ldv, aField, aPart, aIndexAddr, aLen, aSlice, aBuild, aBuildSlice, afill, placeS, aIface, aMakeFunc, aExtract, abuiltin, aAppend, SV.exact, CV.exact, SV.nat, CV.lstOf, CV.lenOf, SV.cells, CV.one, D.one, Value.oneCell', mapO, CV.toD0, CV.toD, SV.toD, splice, chunk, zrow, onat, isFull, capD, ownId, ptrLike, nilD, retV, retD, bodyQ, thenQ, blockQ, dsts, reduceCtorEq, reduceIte, if_true, if_false, ite_true, ite_false, Nat.reduceBEq, Nat.reduceEqDiff, Nat.reduceAdd, Nat.reduceMul, Nat.reduceSub, Nat.reduceLT, Nat.reduceLeDiff, Nat.reduceBNe, Int.reduceLE, Int.reduceLT, Int.reduceBEq, Int.reduceBNe, Int.reduceEq, Int.reduceNeg, Int.reduceAdd, Int.reduceSub, Int.reduceToNat, ne_eq, true_implies, false_implies, forall_const, implies_true, exists_eq_left, exists_eq_left', eq_self, undef, eqL, eqH, toNat_k1, nonneg_k1, Int.add_sub_cancel, Int.cast_ofNat_Int, entryY_env, entryY_H, entryY_nx, entryY_sz, entryY_fx, ofHB_cons, ofHB_nil, rb_upd, baseIs_upd, setP_cons, setP_nil, roundS, afterS, fxR, PartD.dv, someP, RowD.dv, Int.cast_ofNat_Int]; (first | (first | (refine hK _ ?_; clear hK K) | (refine ⟨by kernel_rfl, hK _ ?_⟩; clear hK K) | (refine hT ?_; clear hT hF K) | (refine hF ?_; clear hT hF K)) | refine bcall_f (by assumption) ?_))); fail_if_success (first | (have hX := hK; clear hX) | (have hX := hT; clear hX))) | refine Wp.seq ?_))
  simp (maxSteps := 2000000) (disch := omega) only [RUN, TY, bops, bgd, bgo, bres, bdst, guardB, aop, evalS, ofV, SV.ofD, Res.pure, aAlloc, aBox, aLoad, aStore, ldv, aField, aPart, aIndexAddr, aLen, aSlice, aBuild, aBuildSlice, afill, placeS, aIface, aMakeFunc, aExtract, abuiltin, aAppend, SV.exact, CV.exact, SV.nat, CV.lstOf, CV.lenOf, SV.cells, CV.one, D.one, Value.oneCell', mapO, CV.toD0, CV.toD, SV.toD, splice, chunk, zrow, onat, isFull, capD, ownId, ptrLike, nilD, retV, retD, bodyQ, thenQ, blockQ, dsts, reduceCtorEq, reduceIte, if_true, if_false, ite_true, ite_false, Nat.reduceBEq, Nat.reduceEqDiff, Nat.reduceAdd, Nat.reduceMul, Nat.reduceSub, Nat.reduceLT, Nat.reduceLeDiff, Nat.reduceBNe, Int.reduceLE, Int.reduceLT, Int.reduceBEq, Int.reduceBNe, Int.reduceEq, Int.reduceNeg, Int.reduceAdd, Int.reduceSub, Int.reduceToNat, ne_eq, true_implies, false_implies, forall_const, implies_true, exists_eq_left, exists_eq_left', eq_self, undef, eqL, eqH, toNat_k1, nonneg_k1, Int.add_sub_cancel, Int.cast_ofNat_Int, entryY_env, entryY_H, entryY_nx, entryY_sz, entryY_fx, ofHB_cons, ofHB_nil, rb_upd, baseIs_upd, setP_cons, setP_nil, roundS, afterS, fxR]
/-! plain facts -/
theorem from_at {p : PartD} (h : risB (p.rows.map (·.off)) = true) (i : Nat) (hi : i < p.rows.length) : fromI p (p.rows[i].off + 1) = i + 1 := by
  have h1 := from_ge h (p.rows[i].off + 1) i hi
  have h2 : ¬ fromI p (p.rows[i].off + 1) ≤ i := by
    intro hc
    rw [decide_eq_true hc] at h1
    simp only [decide_eq_true_eq] at h1
    omega
  rcases Nat.lt_or_ge (i + 1) p.rows.length with h3 | h3
  · have h4 := from_ge h (p.rows[i].off + 1) (i + 1) h3
    have h5 := ris_get _ h i (i + 1) (by simpa using h3) (by omega)
    simp only [List.getElem_map] at h5
    rw [decide_eq_true (show p.rows[i].off + 1 ≤ p.rows[i + 1].off by omega)] at h4
    have := of_decide_eq_true h4.symm
    omega
  · have := from_le p (p.rows[i].off + 1)
    omega
theorem from_end {p : PartD} (hp : partB p = true) : fromI p p.fin = p.rows.length := by
  have h1 := from_le p p.fin
  rcases Nat.lt_or_ge (fromI p p.fin) p.rows.length with h2 | h2
  · have h3 := from_ge (part_ris hp) p.fin _ h2
    rw [decide_eq_true (Nat.le_refl (fromI p p.fin))] at h3
    have := of_decide_eq_true h3
    have := (part_rows hp _ (List.getElem_mem h2)).2
    omega
  · omega
theorem from_start {p : PartD} (hp : partB p = true) : fromI p p.start = 0 := by
  rcases Nat.eq_zero_or_pos p.rows.length with h0 | h0
  · have := from_le p p.start; omega
  · have h3 := from_ge (part_ris hp) p.start 0 h0
    have := (part_rows hp _ (List.getElem_mem h0)).1
    rw [decide_eq_true this] at h3
    have := of_decide_eq_true h3.symm
    omega
/-- One fetch on. -/
theorem on_step {p : PartD} (hp : partB p = true) {at_ : Int} {m : Nat} (hm : 1 ≤ m) (h1 : p.start ≤ at_) (h2 : at_ < p.fin) :
    at_ < (fetchF p at_ m true).2 ∧ (fetchF p at_ m true).2 ≤ p.fin ∧ (fetchF p at_ m true).1.length ≤ m ∧ p.rows.take (fromI p at_) ++ (fetchF p at_ m true).1 = p.rows.take (fromI p (fetchF p at_ m true).2) ∧
      ((fetchF p at_ m true).2 = p.fin ∨ fromI p at_ + 1 ≤ fromI p (fetchF p at_ m true).2) := by
  have hle := from_le p at_
  have hlen : (fromF p at_).length = p.rows.length - fromI p at_ := by simp [fromF]
  unfold fetchF
  split
  · rename_i hl
    obtain ⟨k, rfl⟩ : ∃ k, m = k + 1 := ⟨m - 1, by omega⟩
    have hk : fromI p at_ + k < p.rows.length := by omega
    have hg : (fromF p at_)[k]? = some (p.rows[fromI p at_ + k]) := by unfold fromF; rw [List.getElem?_drop, List.getElem?_eq_getElem hk]
    simp only [nextF, hg]
    have h3 := from_ge (part_ris hp) at_ _ hk
    rw [decide_eq_true (show fromI p at_ ≤ fromI p at_ + k by omega)] at h3
    have h4 := of_decide_eq_true h3
    have h5 := (part_rows hp _ (List.getElem_mem hk)).2
    have h6 := from_at (part_ris hp) _ hk
    refine ⟨by omega, by omega, by rw [List.length_take]; omega, ?_, .inr (by omega)⟩
    rw [h6]
    unfold fromF
    rw [show fromI p at_ + k + 1 = fromI p at_ + (k + 1) by omega]
    conv => rhs; rw [List.take_add]
  · rename_i hl
    refine ⟨h2, by omega, ?_, ?_, .inl rfl⟩
    · simp only [if_true, List.append_nil]; omega
    · simp only [if_true, List.append_nil]
      rw [from_end hp, List.take_length]
      exact List.take_append_drop _ _
theorem great_small {p : PartD} (h : greatP p = false) : p.rows.length ≤ 300 ∧ p.opens.length ≤ 40 ∧ p.prods.length ≤ 40 := by
  simp only [greatP, greatRows, Bool.or_eq_false_iff, decide_eq_false_iff_not] at h
  omega
end Go.Proofs.YtijnajohkljonaaDoor
