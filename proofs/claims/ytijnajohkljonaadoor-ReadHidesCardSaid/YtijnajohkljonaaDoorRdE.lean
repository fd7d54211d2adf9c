/- Layer 13's statements: alike, ReadCuts. -/
import Derived.Test.YtijnajohkljonaaDoorRdD
namespace Go.Proofs.YtijnajohkljonaaDoor
open Go Go.RowKit
set_option maxHeartbeats 8000000
set_option maxRecDepth 100000
set_option linter.unusedVariables false
set_option linter.unusedSimpArgs false
theorem alike_fun (y : PartD) (hs : Small2 y) (hN : (pendF y.opens).length ≤ 10000000) : Fun Tryd.prog 29 [.agg y.dv, .agg y.dv] (boo true) := by
  have hr := hs.s.rows
  have c1 := sameRows_fun y.rows y.rows (by omega)
  have c2 := refPending_fun y hs hN
  have c3 := sameRows_fun (pendF y.opens) (pendF y.opens) (by omega)
  simp only [decide_true] at c1 c3
  simp only [PartD.dv] at c2
  (refine Fun.of_body Tryd.func29 rfl rfl Tryd.ntmps29 Tryd.results29 (by simp) ?_)
  (repeat (first | refine Wp.skip ?_ | refine Wp.exit ?_ | refine Wp.ret ?_ | refine Wp.block ?_ | refine Wp.label ?_ | ((first | (first | refine Wp.sreg (fun K hK => ?_) | refine Wp.reg (fun K hK => ?_) | refine Wp.sdrw mixed (fun K hK => ?_) | refine Wp.drw mixed (fun K hK => ?_)) | refine Wp.condG (fun K hT hF => ?_)); (repeat ((first | (have hX := hK; clear hX) | (have hX := hT; clear hX)); simp (maxSteps := 2000000) (disch := omega) only [RUN, TY, bops, bgd, bgo, bres, bdst, guardB, aop, evalS, ofV, SV.ofD, Res.pure, aAlloc, aBox, aLoad, aStore, ldv, aField, aPart, aIndexAddr, aLen, aSlice, aBuild, aBuildSlice, afill, placeS, aIface, aMakeFunc, aExtract, abuiltin, aAppend, SV.exact, CV.exact, SV.nat, CV.lstOf, CV.lenOf, SV.cells, CV.one, D.one, Value.oneCell', mapO, CV.toD0, CV.toD, SV.toD, splice, chunk, zrow, onat, isFull, capD, ownId, ptrLike, nilD, retV, retD, bodyQ, thenQ, blockQ, dsts, reduceCtorEq, reduceIte, if_true, if_false, ite_true, ite_false, Nat.reduceBEq, Nat.reduceEqDiff, Nat.reduceAdd, Nat.reduceMul, Nat.reduceSub, Nat.reduceLT, Nat.reduceLeDiff, Nat.reduceBNe, Int.reduceLE, Int.reduceLT, Int.reduceBEq, Int.reduceBNe, Int.reduceEq, Int.reduceNeg, Int.reduceAdd, Int.reduceSub, Int.reduceToNat, ne_eq, true_implies, false_implies, forall_const, implies_true, exists_eq_left, exists_eq_left', eq_self, undef, eqL, eqH, toNat_k1, nonneg_k1, Int.add_sub_cancel, Int.cast_ofNat_Int, entryY_env, entryY_H, entryY_nx, entryY_sz, entryY_fx, ofHB_cons, ofHB_nil, rb_upd, baseIs_upd, setP_cons, setP_nil, roundS, afterS, fxR, PartD.dv, bne_self_eq_false]; (first | (first | (refine hK _ ?_; clear hK K) | (refine ⟨by kernel_rfl, hK _ ?_⟩; clear hK K) | (refine hT ?_; clear hT hF K) | (refine hF ?_; clear hT hF K)) | refine bcall_f (by assumption) ?_ | refine bcall_a (by assumption) ?_))); fail_if_success (first | (have hX := hK; clear hX) | (have hX := hT; clear hX))) | refine Wp.seq ?_))
  simp (maxSteps := 2000000) (disch := omega) only [RUN, TY, bops, bgd, bgo, bres, bdst, guardB, aop, evalS, ofV, SV.ofD, Res.pure, aAlloc, aBox, aLoad, aStore, ldv, aField, aPart, aIndexAddr, aLen, aSlice, aBuild, aBuildSlice, afill, placeS, aIface, aMakeFunc, aExtract, abuiltin, aAppend, SV.exact, CV.exact, SV.nat, CV.lstOf, CV.lenOf, SV.cells, CV.one, D.one, Value.oneCell', mapO, CV.toD0, CV.toD, SV.toD, splice, chunk, zrow, onat, isFull, capD, ownId, ptrLike, nilD, retV, retD, bodyQ, thenQ, blockQ, dsts, reduceCtorEq, reduceIte, if_true, if_false, ite_true, ite_false, Nat.reduceBEq, Nat.reduceEqDiff, Nat.reduceAdd, Nat.reduceMul, Nat.reduceSub, Nat.reduceLT, Nat.reduceLeDiff, Nat.reduceBNe, Int.reduceLE, Int.reduceLT, Int.reduceBEq, Int.reduceBNe, Int.reduceEq, Int.reduceNeg, Int.reduceAdd, Int.reduceSub, Int.reduceToNat, ne_eq, true_implies, false_implies, forall_const, implies_true, exists_eq_left, exists_eq_left', eq_self, undef, eqL, eqH, toNat_k1, nonneg_k1, Int.add_sub_cancel, Int.cast_ofNat_Int, entryY_env, entryY_H, entryY_nx, entryY_sz, entryY_fx, ofHB_cons, ofHB_nil, rb_upd, baseIs_upd, setP_cons, setP_nil, roundS, afterS, fxR]
theorem flatMap_len {α β : Type} (f : α → List β) (n : Nat) : ∀ l : List α, (∀ x ∈ l, (f x).length ≤ n) → (l.flatMap f).length ≤ l.length * n
  | [], _ => by simp
  | a :: l, h => by
    have := flatMap_len f n l (fun x hx => h x (by simp [hx]))
    have := h a (by simp)
    rw [List.flatMap_cons, List.length_append, List.length_cons, Nat.succ_mul]; omega
theorem great_small2 {p : PartD} (h : greatP p = false) : Small2 p ∧ (pendF p.opens).length ≤ 10000000 := by
  obtain ⟨h1, h2, h3⟩ := great_small h
  simp only [greatP, Bool.or_eq_false_iff] at h
  obtain ⟨⟨_, ho⟩, hq⟩ := h
  have hb : ∀ o ∈ p.opens, o.bats.length ≤ 40 ∧ ∀ b ∈ o.bats, b.recs.length ≤ 40 := fun o hm => by
    have := List.any_eq_false.1 ho o hm
    simp only [greatBats, Bool.not_eq_true, Bool.or_eq_false_iff, decide_eq_false_iff_not] at this
    refine ⟨by omega, fun b hb => ?_⟩
    have h4 := List.any_eq_false.1 this.2 b hb
    simp only [greatBat, Bool.not_eq_true, Bool.or_eq_false_iff, decide_eq_false_iff_not] at h4
    omega
  refine ⟨⟨⟨by omega, by omega⟩, by omega, fun o hm => by have := (hb o hm).1; omega, fun o hm b hb' => by have := (hb o hm).2 b hb'; omega, fun q hm => ?_⟩, ?_⟩
  · have := List.any_eq_false.1 hq q hm
    simp only [Bool.not_eq_true, decide_eq_false_iff_not] at this
    omega
  · have h5 := flatMap_len (fun o : OpenD => o.bats.flatMap rowsB) 1600 p.opens (fun o hm => by
      obtain ⟨h6, h7⟩ := hb o hm
      have h8 := flatMap_len rowsB 40 o.bats (fun b hb' => by rw [rowsB_len]; exact h7 b hb')
      have := Nat.mul_le_mul_right 40 h6
      omega)
    have h9 := Nat.mul_le_mul_right 1600 h2
    unfold pendF
    omega
theorem great_pend {p : PartD} (h : greatP p = false) : (pendF p.opens).length ≤ 1000000 := by
  obtain ⟨h1, h2, h3⟩ := great_small h
  simp only [greatP, Bool.or_eq_false_iff] at h
  obtain ⟨⟨_, ho⟩, hq⟩ := h
  have h5 := flatMap_len (fun o : OpenD => o.bats.flatMap rowsB) 1600 p.opens (fun o hm => by
    have := List.any_eq_false.1 ho o hm
    simp only [greatBats, Bool.not_eq_true, Bool.or_eq_false_iff, decide_eq_false_iff_not] at this
    have h6 : o.bats.length ≤ 40 := by omega
    have h8 := flatMap_len rowsB 40 o.bats (fun b hb' => by
      have h4 := List.any_eq_false.1 this.2 b hb'
      simp only [greatBat, Bool.not_eq_true, Bool.or_eq_false_iff, decide_eq_false_iff_not] at h4
      rw [rowsB_len]; omega)
    have := Nat.mul_le_mul_right 40 h6
    omega)
  have h9 := Nat.mul_le_mul_right 1600 h2
  unfold pendF
  omega
/-! the plain law -/
def cutP (p : PartD) (off : Int) : PartD := ⟨off, p.fin, fromF p off, p.opens, p.prods⟩
theorem CutF_ok {p : PartD} {off : Int} (hp : partB p = true) (hi : inB p off = true) : CutF p off = (cutP p off, 0) := by simp only [CutF, hp, hi, cutP]; rfl
theorem CutF_out {p : PartD} {off : Int} (hp : partB p = true) (hi : inB p off = false) : CutF p off = (zeroP, 130) := by simp only [CutF, hp, hi]; rfl
theorem from_mono {p : PartD} (h : risB (p.rows.map (·.off)) = true) {a b : Int} (hab : a ≤ b) : fromI p a ≤ fromI p b := by
  rcases Nat.lt_or_ge (fromI p b) p.rows.length with h1 | h1
  · have h2 := from_ge h b _ h1
    have h3 := from_ge h a _ h1
    rw [decide_eq_true (Nat.le_refl (fromI p b))] at h2
    have h2 := of_decide_eq_true h2
    rw [decide_eq_true (show a ≤ p.rows[fromI p b].off by omega)] at h3
    exact of_decide_eq_true h3.symm
  · have := from_le p a; omega
theorem from_unique {p : PartD} (off : Int) (k : Nat) (hk : k ≤ p.rows.length) (h1 : ∀ j (hj : j < p.rows.length), j < k → p.rows[j].off < off) (h2 : ∀ (hj : k < p.rows.length), off ≤ p.rows[k].off) : fromI p off = k := by
  unfold fromI
  rcases Nat.lt_or_ge k p.rows.length with h | h
  · rw [List.findIdx_eq h]
    exact ⟨decide_eq_true (h2 h), fun j hj => decide_eq_false (by have := h1 j (by omega) hj; omega)⟩
  · have hk : k = p.rows.length := by omega
    rw [hk]
    refine List.findIdx_eq_length.2 (fun x hx => ?_)
    obtain ⟨j, hj, rfl⟩ := List.getElem_of_mem hx
    exact decide_eq_false (by have := h1 j hj (by omega); omega)
theorem cut_from {p : PartD} (h : risB (p.rows.map (·.off)) = true) {a b : Int} (hab : a ≤ b) : fromI (cutP p a) b = fromI p b - fromI p a ∧ fromF (cutP p a) b = fromF p b := by
  have hm := from_mono h hab
  have hle := from_le p b
  have e : fromI (cutP p a) b = fromI p b - fromI p a := by
    refine from_unique b _ (by simp only [cutP, fromF, List.length_drop]; omega) (fun j hj hj2 => ?_) (fun hj => ?_)
    · have hj' : fromI p a + j < p.rows.length := by simp only [cutP, fromF, List.length_drop] at hj; omega
      have h3 := from_ge h b _ hj'
      rw [decide_eq_false (show ¬ fromI p b ≤ fromI p a + j by omega)] at h3
      have h3 := of_decide_eq_false h3
      simp only [cutP, fromF, List.getElem_drop]
      omega
    · simp only [cutP, fromF, List.length_drop] at hj
      have hj' : fromI p a + (fromI p b - fromI p a) < p.rows.length := by omega
      have h3 := from_ge h b _ hj'
      rw [decide_eq_true (show fromI p b ≤ fromI p a + (fromI p b - fromI p a) by omega)] at h3
      have h3 := of_decide_eq_true h3
      simp only [cutP, fromF, List.getElem_drop]
      exact h3
  refine ⟨e, ?_⟩
  unfold fromF
  rw [e]
  simp only [cutP, fromF, List.drop_drop]
  congr 1
  omega
theorem ris_drop : ∀ (l : List Int) (k : Nat), risB l = true → risB (l.drop k) = true
  | l, 0, h => by simpa using h
  | [], k + 1, _ => by simp [risB]
  | [a], k + 1, _ => by simp [risB]
  | a :: b :: l, k + 1, h => by
    simp only [risB, Bool.and_eq_true] at h
    simpa using ris_drop (b :: l) k h.2
theorem cut_part {p : PartD} (hp : partB p = true) {a : Int} (hi : inB p a = true) : partB (cutP p a) = true := by
  have hrg := part_range hp
  have hr := part_ris hp
  have hi' : p.start ≤ a ∧ a ≤ p.fin := by simp only [inB, Bool.not_eq_true', Bool.or_eq_false_iff, decide_eq_false_iff_not] at hi; omega
  have h1 : rangeBad (cutP p a) = false := by
    show (decide (a < 0) || decide (p.fin < a) || decide (1048576 < p.fin)) = false
    rw [decide_eq_false (show ¬ a < 0 by omega), decide_eq_false (show ¬ p.fin < a by omega), decide_eq_false (show ¬ 1048576 < p.fin by omega)]; rfl
  have h2 : risB ((cutP p a).rows.map (·.off)) = true := by
    simp only [cutP, fromF, List.map_drop]; exact ris_drop _ _ hr
  have h3 : endsBad (cutP p a) = false := by
    unfold endsBad
    cases hh : (cutP p a).rows.head? with
    | none => rfl
    | some x =>
      cases hl : (cutP p a).rows.getLast? with
      | none => rfl
      | some z =>
        have hx : (fromF p a)[0]? = some x := by rw [← List.head?_eq_getElem?]; exact hh
        have hz : z ∈ p.rows := List.mem_of_mem_drop (List.mem_of_getLast? hl)
        have hz2 := part_rows hp z hz
        unfold fromF at hx
        rw [List.getElem?_drop] at hx
        obtain ⟨hlt, hx⟩ := List.getElem?_eq_some_iff.1 hx
        have h3 := from_ge hr a _ hlt
        rw [decide_eq_true (show fromI p a ≤ fromI p a + 0 by omega)] at h3
        have h3 := of_decide_eq_true h3
        rw [hx] at h3
        show (decide (x.off < a) || decide (p.fin ≤ z.off)) = false
        rw [decide_eq_false (show ¬ x.off < a by omega), decide_eq_false (show ¬ p.fin ≤ z.off by omega)]; rfl
  have h4 : risB ((cutP p a).opens.map (·.pid)) = true ∧ (cutP p a).opens.any (fun o => o.bats == []) = false := by
    simp only [partB, Bool.and_eq_true, Bool.not_eq_true'] at hp
    exact ⟨hp.1.2, hp.2⟩
  simp only [partB, h1, h2, h3, h4.1, h4.2]; rfl
theorem cut_small {p : PartD} (hs : Small2 p) (a : Int) : Small2 (cutP p a) := by
  have h := hs.s.rows
  exact ⟨⟨by simp only [cutP, fromF, List.length_drop]; omega, hs.s.opens⟩, hs.prods, hs.bats, hs.recs, hs.seen⟩
theorem cut_in {p : PartD} {a b : Int} (hi : inB p a = true) (hab : a ≤ b) : inB (cutP p a) b = inB p b := by
  simp only [inB, Bool.not_eq_true', Bool.or_eq_false_iff, decide_eq_false_iff_not] at hi
  have h1 : decide (b < a) = false := decide_eq_false (by omega)
  have h2 : decide (b < p.start) = false := decide_eq_false (by omega)
  show (!(decide (b < a) || decide (p.fin < b))) = (!(decide (b < p.start) || decide (p.fin < b)))
  rw [h1, h2]
theorem cut_cut {p : PartD} (hp : partB p = true) {a b : Int} (hi : inB p a = true) (hab : a ≤ b) : CutF (cutP p a) b = CutF p b := by
  have h1 := cut_part hp hi
  have h2 := cut_in hi hab
  cases hb : inB p b with
  | true =>
    rw [hb] at h2
    rw [CutF_ok h1 h2, CutF_ok hp hb]
    obtain ⟨_, h3⟩ := cut_from (part_ris hp) hab
    simp only [cutP] at h3 ⊢
    rw [h3]
  | false =>
    rw [hb] at h2
    rw [CutF_out h1 h2, CutF_out hp hb]
theorem CutF_small {p : PartD} (hs : Small2 p) (hN : (pendF p.opens).length ≤ 10000000) (hp : partB p = true) (b : Int) : Small2 (CutF p b).1 ∧ (pendF (CutF p b).1.opens).length ≤ 10000000 := by
  cases hb : inB p b with
  | true => rw [CutF_ok hp hb]; exact ⟨cut_small hs b, hN⟩
  | false => rw [CutF_out hp hb]; exact ⟨⟨⟨by simp [zeroP], by simp [zeroP]⟩, by simp [zeroP], by simp [zeroP], by simp [zeroP], by simp [zeroP]⟩, by simp [zeroP, pendF]⟩
theorem readCuts_fun (p : PartD) (a b : Int) : Fun Tryd.prog 6 [.agg p.dv, int a, int b] (boo true) := by
  have c1 := greatP_fun p
  have c2 := wakes13_fun
  (refine Fun.of_body Tryd.func6 rfl rfl Tryd.ntmps6 Tryd.results6 (by simp) ?_)
  cases hg : greatP p with
  | true =>
    rw [hg] at c1
    simp only [PartD.dv] at c1
    (repeat (first | refine Wp.skip ?_ | refine Wp.exit ?_ | refine Wp.ret ?_ | refine Wp.block ?_ | refine Wp.label ?_ | ((first | (first | refine Wp.sreg (fun K hK => ?_) | refine Wp.reg (fun K hK => ?_) | refine Wp.sdrw mixed (fun K hK => ?_) | refine Wp.drw mixed (fun K hK => ?_)) | refine Wp.condG (fun K hT hF => ?_)); (repeat ((first | (have hX := hK; clear hX) | (have hX := hT; clear hX)); simp (maxSteps := 2000000) (disch := omega) only [RUN, TY, bops, bgd, bgo, bres, bdst, guardB, aop, evalS, ofV, SV.ofD, Res.pure, aAlloc, aBox, aLoad, aStore, ldv, aField, aPart, aIndexAddr, aLen, aSlice, aBuild, aBuildSlice, afill, placeS, aIface, aMakeFunc, aExtract, abuiltin, aAppend, SV.exact, CV.exact, SV.nat, CV.lstOf, CV.lenOf, SV.cells, CV.one, D.one, Value.oneCell', mapO, CV.toD0, CV.toD, SV.toD, splice, chunk, zrow, onat, isFull, capD, ownId, ptrLike, nilD, retV, retD, bodyQ, thenQ, blockQ, dsts, reduceCtorEq, reduceIte, if_true, if_false, ite_true, ite_false, Nat.reduceBEq, Nat.reduceEqDiff, Nat.reduceAdd, Nat.reduceMul, Nat.reduceSub, Nat.reduceLT, Nat.reduceLeDiff, Nat.reduceBNe, Int.reduceLE, Int.reduceLT, Int.reduceBEq, Int.reduceBNe, Int.reduceEq, Int.reduceNeg, Int.reduceAdd, Int.reduceSub, Int.reduceToNat, ne_eq, true_implies, false_implies, forall_const, implies_true, exists_eq_left, exists_eq_left', eq_self, undef, eqL, eqH, toNat_k1, nonneg_k1, Int.add_sub_cancel, Int.cast_ofNat_Int, entryY_env, entryY_H, entryY_nx, entryY_sz, entryY_fx, ofHB_cons, ofHB_nil, rb_upd, baseIs_upd, setP_cons, setP_nil, roundS, afterS, fxR, PartD.dv]; (first | (first | (refine hK _ ?_; clear hK K) | (refine ⟨by kernel_rfl, hK _ ?_⟩; clear hK K) | (refine hT ?_; clear hT hF K) | (refine hF ?_; clear hT hF K)) | refine bcall_f (by assumption) ?_ | refine bcall_a (by assumption) ?_))); fail_if_success (first | (have hX := hK; clear hX) | (have hX := hT; clear hX))) | refine Wp.seq ?_))
    simp (maxSteps := 2000000) (disch := omega) only [RUN, TY, bops, bgd, bgo, bres, bdst, guardB, aop, evalS, ofV, SV.ofD, Res.pure, aAlloc, aBox, aLoad, aStore, ldv, aField, aPart, aIndexAddr, aLen, aSlice, aBuild, aBuildSlice, afill, placeS, aIface, aMakeFunc, aExtract, abuiltin, aAppend, SV.exact, CV.exact, SV.nat, CV.lstOf, CV.lenOf, SV.cells, CV.one, D.one, Value.oneCell', mapO, CV.toD0, CV.toD, SV.toD, splice, chunk, zrow, onat, isFull, capD, ownId, ptrLike, nilD, retV, retD, bodyQ, thenQ, blockQ, dsts, reduceCtorEq, reduceIte, if_true, if_false, ite_true, ite_false, Nat.reduceBEq, Nat.reduceEqDiff, Nat.reduceAdd, Nat.reduceMul, Nat.reduceSub, Nat.reduceLT, Nat.reduceLeDiff, Nat.reduceBNe, Int.reduceLE, Int.reduceLT, Int.reduceBEq, Int.reduceBNe, Int.reduceEq, Int.reduceNeg, Int.reduceAdd, Int.reduceSub, Int.reduceToNat, ne_eq, true_implies, false_implies, forall_const, implies_true, exists_eq_left, exists_eq_left', eq_self, undef, eqL, eqH, toNat_k1, nonneg_k1, Int.add_sub_cancel, Int.cast_ofNat_Int, entryY_env, entryY_H, entryY_nx, entryY_sz, entryY_fx, ofHB_cons, ofHB_nil, rb_upd, baseIs_upd, setP_cons, setP_nil, roundS, afterS, fxR]
  | false =>
  rw [hg] at c1
  obtain ⟨hs, hN⟩ := great_small2 hg
  have c3 := Check_fun p hs.s
  cases hp : partB p with
  | false =>
    simp only [hp, Bool.false_eq_true, if_false] at c3
    simp only [PartD.dv] at c1 c3
    (repeat (first | refine Wp.skip ?_ | refine Wp.exit ?_ | refine Wp.ret ?_ | refine Wp.block ?_ | refine Wp.label ?_ | ((first | (first | refine Wp.sreg (fun K hK => ?_) | refine Wp.reg (fun K hK => ?_) | refine Wp.sdrw mixed (fun K hK => ?_) | refine Wp.drw mixed (fun K hK => ?_)) | refine Wp.condG (fun K hT hF => ?_)); (repeat ((first | (have hX := hK; clear hX) | (have hX := hT; clear hX)); simp (maxSteps := 2000000) (disch := omega) only [RUN, TY, bops, bgd, bgo, bres, bdst, guardB, aop, evalS, ofV, SV.ofD, Res.pure, aAlloc, aBox, aLoad, aStore, ldv, aField, aPart, aIndexAddr, aLen, aSlice, aBuild, aBuildSlice, afill, placeS, aIface, aMakeFunc, aExtract, abuiltin, aAppend, SV.exact, CV.exact, SV.nat, CV.lstOf, CV.lenOf, SV.cells, CV.one, D.one, Value.oneCell', mapO, CV.toD0, CV.toD, SV.toD, splice, chunk, zrow, onat, isFull, capD, ownId, ptrLike, nilD, retV, retD, bodyQ, thenQ, blockQ, dsts, reduceCtorEq, reduceIte, if_true, if_false, ite_true, ite_false, Nat.reduceBEq, Nat.reduceEqDiff, Nat.reduceAdd, Nat.reduceMul, Nat.reduceSub, Nat.reduceLT, Nat.reduceLeDiff, Nat.reduceBNe, Int.reduceLE, Int.reduceLT, Int.reduceBEq, Int.reduceBNe, Int.reduceEq, Int.reduceNeg, Int.reduceAdd, Int.reduceSub, Int.reduceToNat, ne_eq, true_implies, false_implies, forall_const, implies_true, exists_eq_left, exists_eq_left', eq_self, undef, eqL, eqH, toNat_k1, nonneg_k1, Int.add_sub_cancel, Int.cast_ofNat_Int, entryY_env, entryY_H, entryY_nx, entryY_sz, entryY_fx, ofHB_cons, ofHB_nil, rb_upd, baseIs_upd, setP_cons, setP_nil, roundS, afterS, fxR, PartD.dv]; (first | (first | (refine hK _ ?_; clear hK K) | (refine ⟨by kernel_rfl, hK _ ?_⟩; clear hK K) | (refine hT ?_; clear hT hF K) | (refine hF ?_; clear hT hF K)) | refine bcall_f (by assumption) ?_ | refine bcall_a (by assumption) ?_))); fail_if_success (first | (have hX := hK; clear hX) | (have hX := hT; clear hX))) | refine Wp.seq ?_))
    simp (maxSteps := 2000000) (disch := omega) only [RUN, TY, bops, bgd, bgo, bres, bdst, guardB, aop, evalS, ofV, SV.ofD, Res.pure, aAlloc, aBox, aLoad, aStore, ldv, aField, aPart, aIndexAddr, aLen, aSlice, aBuild, aBuildSlice, afill, placeS, aIface, aMakeFunc, aExtract, abuiltin, aAppend, SV.exact, CV.exact, SV.nat, CV.lstOf, CV.lenOf, SV.cells, CV.one, D.one, Value.oneCell', mapO, CV.toD0, CV.toD, SV.toD, splice, chunk, zrow, onat, isFull, capD, ownId, ptrLike, nilD, retV, retD, bodyQ, thenQ, blockQ, dsts, reduceCtorEq, reduceIte, if_true, if_false, ite_true, ite_false, Nat.reduceBEq, Nat.reduceEqDiff, Nat.reduceAdd, Nat.reduceMul, Nat.reduceSub, Nat.reduceLT, Nat.reduceLeDiff, Nat.reduceBNe, Int.reduceLE, Int.reduceLT, Int.reduceBEq, Int.reduceBNe, Int.reduceEq, Int.reduceNeg, Int.reduceAdd, Int.reduceSub, Int.reduceToNat, ne_eq, true_implies, false_implies, forall_const, implies_true, exists_eq_left, exists_eq_left', eq_self, undef, eqL, eqH, toNat_k1, nonneg_k1, Int.add_sub_cancel, Int.cast_ofNat_Int, entryY_env, entryY_H, entryY_nx, entryY_sz, entryY_fx, ofHB_cons, ofHB_nil, rb_upd, baseIs_upd, setP_cons, setP_nil, roundS, afterS, fxR]
  | true =>
  simp only [hp, if_true] at c3
  simp only [PartD.dv] at c1 c3
  cases hz : decide (b < a) with
  | true =>
    (repeat (first | refine Wp.skip ?_ | refine Wp.exit ?_ | refine Wp.ret ?_ | refine Wp.block ?_ | refine Wp.label ?_ | ((first | (first | refine Wp.sreg (fun K hK => ?_) | refine Wp.reg (fun K hK => ?_) | refine Wp.sdrw mixed (fun K hK => ?_) | refine Wp.drw mixed (fun K hK => ?_)) | refine Wp.condG (fun K hT hF => ?_)); (repeat ((first | (have hX := hK; clear hX) | (have hX := hT; clear hX)); simp (maxSteps := 2000000) (disch := omega) only [RUN, TY, bops, bgd, bgo, bres, bdst, guardB, aop, evalS, ofV, SV.ofD, Res.pure, aAlloc, aBox, aLoad, aStore, ldv, aField, aPart, aIndexAddr, aLen, aSlice, aBuild, aBuildSlice, afill, placeS, aIface, aMakeFunc, aExtract, abuiltin, aAppend, SV.exact, CV.exact, SV.nat, CV.lstOf, CV.lenOf, SV.cells, CV.one, D.one, Value.oneCell', mapO, CV.toD0, CV.toD, SV.toD, splice, chunk, zrow, onat, isFull, capD, ownId, ptrLike, nilD, retV, retD, bodyQ, thenQ, blockQ, dsts, reduceCtorEq, reduceIte, if_true, if_false, ite_true, ite_false, Nat.reduceBEq, Nat.reduceEqDiff, Nat.reduceAdd, Nat.reduceMul, Nat.reduceSub, Nat.reduceLT, Nat.reduceLeDiff, Nat.reduceBNe, Int.reduceLE, Int.reduceLT, Int.reduceBEq, Int.reduceBNe, Int.reduceEq, Int.reduceNeg, Int.reduceAdd, Int.reduceSub, Int.reduceToNat, ne_eq, true_implies, false_implies, forall_const, implies_true, exists_eq_left, exists_eq_left', eq_self, undef, eqL, eqH, toNat_k1, nonneg_k1, Int.add_sub_cancel, Int.cast_ofNat_Int, entryY_env, entryY_H, entryY_nx, entryY_sz, entryY_fx, ofHB_cons, ofHB_nil, rb_upd, baseIs_upd, setP_cons, setP_nil, roundS, afterS, fxR, PartD.dv, hz]; (first | (first | (refine hK _ ?_; clear hK K) | (refine ⟨by kernel_rfl, hK _ ?_⟩; clear hK K) | (refine hT ?_; clear hT hF K) | (refine hF ?_; clear hT hF K)) | refine bcall_f (by assumption) ?_ | refine bcall_a (by assumption) ?_))); fail_if_success (first | (have hX := hK; clear hX) | (have hX := hT; clear hX))) | refine Wp.seq ?_))
    simp (maxSteps := 2000000) (disch := omega) only [RUN, TY, bops, bgd, bgo, bres, bdst, guardB, aop, evalS, ofV, SV.ofD, Res.pure, aAlloc, aBox, aLoad, aStore, ldv, aField, aPart, aIndexAddr, aLen, aSlice, aBuild, aBuildSlice, afill, placeS, aIface, aMakeFunc, aExtract, abuiltin, aAppend, SV.exact, CV.exact, SV.nat, CV.lstOf, CV.lenOf, SV.cells, CV.one, D.one, Value.oneCell', mapO, CV.toD0, CV.toD, SV.toD, splice, chunk, zrow, onat, isFull, capD, ownId, ptrLike, nilD, retV, retD, bodyQ, thenQ, blockQ, dsts, reduceCtorEq, reduceIte, if_true, if_false, ite_true, ite_false, Nat.reduceBEq, Nat.reduceEqDiff, Nat.reduceAdd, Nat.reduceMul, Nat.reduceSub, Nat.reduceLT, Nat.reduceLeDiff, Nat.reduceBNe, Int.reduceLE, Int.reduceLT, Int.reduceBEq, Int.reduceBNe, Int.reduceEq, Int.reduceNeg, Int.reduceAdd, Int.reduceSub, Int.reduceToNat, ne_eq, true_implies, false_implies, forall_const, implies_true, exists_eq_left, exists_eq_left', eq_self, undef, eqL, eqH, toNat_k1, nonneg_k1, Int.add_sub_cancel, Int.cast_ofNat_Int, entryY_env, entryY_H, entryY_nx, entryY_sz, entryY_fx, ofHB_cons, ofHB_nil, rb_upd, baseIs_upd, setP_cons, setP_nil, roundS, afterS, fxR]
  | false =>
  have hab : a ≤ b := by simpa using hz
  have c4 := Cut_fun p a hs
  cases hi : inB p a with
  | false =>
    rw [CutF_out hp hi] at c4
    simp only [PartD.dv, zeroP, List.map_nil] at c4
    (repeat (first | refine Wp.skip ?_ | refine Wp.exit ?_ | refine Wp.ret ?_ | refine Wp.block ?_ | refine Wp.label ?_ | ((first | (first | refine Wp.sreg (fun K hK => ?_) | refine Wp.reg (fun K hK => ?_) | refine Wp.sdrw mixed (fun K hK => ?_) | refine Wp.drw mixed (fun K hK => ?_)) | refine Wp.condG (fun K hT hF => ?_)); (repeat ((first | (have hX := hK; clear hX) | (have hX := hT; clear hX)); simp (maxSteps := 2000000) (disch := omega) only [RUN, TY, bops, bgd, bgo, bres, bdst, guardB, aop, evalS, ofV, SV.ofD, Res.pure, aAlloc, aBox, aLoad, aStore, ldv, aField, aPart, aIndexAddr, aLen, aSlice, aBuild, aBuildSlice, afill, placeS, aIface, aMakeFunc, aExtract, abuiltin, aAppend, SV.exact, CV.exact, SV.nat, CV.lstOf, CV.lenOf, SV.cells, CV.one, D.one, Value.oneCell', mapO, CV.toD0, CV.toD, SV.toD, splice, chunk, zrow, onat, isFull, capD, ownId, ptrLike, nilD, retV, retD, bodyQ, thenQ, blockQ, dsts, reduceCtorEq, reduceIte, if_true, if_false, ite_true, ite_false, Nat.reduceBEq, Nat.reduceEqDiff, Nat.reduceAdd, Nat.reduceMul, Nat.reduceSub, Nat.reduceLT, Nat.reduceLeDiff, Nat.reduceBNe, Int.reduceLE, Int.reduceLT, Int.reduceBEq, Int.reduceBNe, Int.reduceEq, Int.reduceNeg, Int.reduceAdd, Int.reduceSub, Int.reduceToNat, ne_eq, true_implies, false_implies, forall_const, implies_true, exists_eq_left, exists_eq_left', eq_self, undef, eqL, eqH, toNat_k1, nonneg_k1, Int.add_sub_cancel, Int.cast_ofNat_Int, entryY_env, entryY_H, entryY_nx, entryY_sz, entryY_fx, ofHB_cons, ofHB_nil, rb_upd, baseIs_upd, setP_cons, setP_nil, roundS, afterS, fxR, PartD.dv, hz]; (first | (first | (refine hK _ ?_; clear hK K) | (refine ⟨by kernel_rfl, hK _ ?_⟩; clear hK K) | (refine hT ?_; clear hT hF K) | (refine hF ?_; clear hT hF K)) | refine bcall_f (by assumption) ?_ | refine bcall_a (by assumption) ?_))); fail_if_success (first | (have hX := hK; clear hX) | (have hX := hT; clear hX))) | refine Wp.seq ?_))
    simp (maxSteps := 2000000) (disch := omega) only [RUN, TY, bops, bgd, bgo, bres, bdst, guardB, aop, evalS, ofV, SV.ofD, Res.pure, aAlloc, aBox, aLoad, aStore, ldv, aField, aPart, aIndexAddr, aLen, aSlice, aBuild, aBuildSlice, afill, placeS, aIface, aMakeFunc, aExtract, abuiltin, aAppend, SV.exact, CV.exact, SV.nat, CV.lstOf, CV.lenOf, SV.cells, CV.one, D.one, Value.oneCell', mapO, CV.toD0, CV.toD, SV.toD, splice, chunk, zrow, onat, isFull, capD, ownId, ptrLike, nilD, retV, retD, bodyQ, thenQ, blockQ, dsts, reduceCtorEq, reduceIte, if_true, if_false, ite_true, ite_false, Nat.reduceBEq, Nat.reduceEqDiff, Nat.reduceAdd, Nat.reduceMul, Nat.reduceSub, Nat.reduceLT, Nat.reduceLeDiff, Nat.reduceBNe, Int.reduceLE, Int.reduceLT, Int.reduceBEq, Int.reduceBNe, Int.reduceEq, Int.reduceNeg, Int.reduceAdd, Int.reduceSub, Int.reduceToNat, ne_eq, true_implies, false_implies, forall_const, implies_true, exists_eq_left, exists_eq_left', eq_self, undef, eqL, eqH, toNat_k1, nonneg_k1, Int.add_sub_cancel, Int.cast_ofNat_Int, entryY_env, entryY_H, entryY_nx, entryY_sz, entryY_fx, ofHB_cons, ofHB_nil, rb_upd, baseIs_upd, setP_cons, setP_nil, roundS, afterS, fxR]
  | true =>
  rw [CutF_ok hp hi] at c4
  have c5 := Cut_fun (cutP p a) b (cut_small hs a)
  have c6 := Cut_fun p b hs
  rw [cut_cut hp hi hab] at c5
  obtain ⟨hs3, hN3⟩ := CutF_small hs hN hp b
  have c7 := alike_fun (CutF p b).1 hs3 hN3
  generalize CutF p b = y at *
  obtain ⟨y, e⟩ := y
  simp only [PartD.dv, cutP] at c4 c5 c6 c7
  (repeat (first | refine Wp.skip ?_ | refine Wp.exit ?_ | refine Wp.ret ?_ | refine Wp.block ?_ | refine Wp.label ?_ | ((first | (first | refine Wp.sreg (fun K hK => ?_) | refine Wp.reg (fun K hK => ?_) | refine Wp.sdrw mixed (fun K hK => ?_) | refine Wp.drw mixed (fun K hK => ?_)) | refine Wp.condG (fun K hT hF => ?_)); (repeat ((first | (have hX := hK; clear hX) | (have hX := hT; clear hX)); simp (maxSteps := 2000000) (disch := omega) only [RUN, TY, bops, bgd, bgo, bres, bdst, guardB, aop, evalS, ofV, SV.ofD, Res.pure, aAlloc, aBox, aLoad, aStore, ldv, aField, aPart, aIndexAddr, aLen, aSlice, aBuild, aBuildSlice, afill, placeS, aIface, aMakeFunc, aExtract, abuiltin, aAppend, SV.exact, CV.exact, SV.nat, CV.lstOf, CV.lenOf, SV.cells, CV.one, D.one, Value.oneCell', mapO, CV.toD0, CV.toD, SV.toD, splice, chunk, zrow, onat, isFull, capD, ownId, ptrLike, nilD, retV, retD, bodyQ, thenQ, blockQ, dsts, reduceCtorEq, reduceIte, if_true, if_false, ite_true, ite_false, Nat.reduceBEq, Nat.reduceEqDiff, Nat.reduceAdd, Nat.reduceMul, Nat.reduceSub, Nat.reduceLT, Nat.reduceLeDiff, Nat.reduceBNe, Int.reduceLE, Int.reduceLT, Int.reduceBEq, Int.reduceBNe, Int.reduceEq, Int.reduceNeg, Int.reduceAdd, Int.reduceSub, Int.reduceToNat, ne_eq, true_implies, false_implies, forall_const, implies_true, exists_eq_left, exists_eq_left', eq_self, undef, eqL, eqH, toNat_k1, nonneg_k1, Int.add_sub_cancel, Int.cast_ofNat_Int, entryY_env, entryY_H, entryY_nx, entryY_sz, entryY_fx, ofHB_cons, ofHB_nil, rb_upd, baseIs_upd, setP_cons, setP_nil, roundS, afterS, fxR, PartD.dv, hz, beq_self_eq_true]; (first | (first | (refine hK _ ?_; clear hK K) | (refine ⟨by kernel_rfl, hK _ ?_⟩; clear hK K) | (refine hT ?_; clear hT hF K) | (refine hF ?_; clear hT hF K)) | refine bcall_f (by assumption) ?_ | refine bcall_a (by assumption) ?_))); fail_if_success (first | (have hX := hK; clear hX) | (have hX := hT; clear hX))) | refine Wp.seq ?_))
  simp (maxSteps := 2000000) (disch := omega) only [RUN, TY, bops, bgd, bgo, bres, bdst, guardB, aop, evalS, ofV, SV.ofD, Res.pure, aAlloc, aBox, aLoad, aStore, ldv, aField, aPart, aIndexAddr, aLen, aSlice, aBuild, aBuildSlice, afill, placeS, aIface, aMakeFunc, aExtract, abuiltin, aAppend, SV.exact, CV.exact, SV.nat, CV.lstOf, CV.lenOf, SV.cells, CV.one, D.one, Value.oneCell', mapO, CV.toD0, CV.toD, SV.toD, splice, chunk, zrow, onat, isFull, capD, ownId, ptrLike, nilD, retV, retD, bodyQ, thenQ, blockQ, dsts, reduceCtorEq, reduceIte, if_true, if_false, ite_true, ite_false, Nat.reduceBEq, Nat.reduceEqDiff, Nat.reduceAdd, Nat.reduceMul, Nat.reduceSub, Nat.reduceLT, Nat.reduceLeDiff, Nat.reduceBNe, Int.reduceLE, Int.reduceLT, Int.reduceBEq, Int.reduceBNe, Int.reduceEq, Int.reduceNeg, Int.reduceAdd, Int.reduceSub, Int.reduceToNat, ne_eq, true_implies, false_implies, forall_const, implies_true, exists_eq_left, exists_eq_left', eq_self, undef, eqL, eqH, toNat_k1, nonneg_k1, Int.add_sub_cancel, Int.cast_ofNat_Int, entryY_env, entryY_H, entryY_nx, entryY_sz, entryY_fx, ofHB_cons, ofHB_nil, rb_upd, baseIs_upd, setP_cons, setP_nil, roundS, afterS, fxR]
end Go.Proofs.YtijnajohkljonaaDoor
