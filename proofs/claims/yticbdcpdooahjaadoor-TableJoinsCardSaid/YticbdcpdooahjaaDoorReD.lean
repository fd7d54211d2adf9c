/- Package read: fetch and Fetch of what is committed; Check. -/
import Derived.Test.YticbdcpdooahjaaDoorReC
namespace Go.Proofs.YticbdcpdooahjaaDoor
open Go Go.RowKit
set_option maxHeartbeats 4000000
set_option maxRecDepth 100000
set_option linter.unusedVariables false
set_option linter.unusedSimpArgs false
def fromF (p : PartD) (off : Int) : List RowD := p.rows.drop (fromI p off)
/-- The records of open transactions. -/
def rowsB (b : BatD) : List RowD := b.recs.zipIdx.map fun (r, i) => ⟨-1, b.pid, IntKind.i64.wrap (b.seq + i), r.key, r.value⟩
def pendF (l : List OpenD) : List RowD := l.flatMap fun o => o.bats.flatMap rowsB
def nextF (first : Int) (m : Nat) (l : List RowD) : Int := match m with
  | 0 => first
  | m + 1 => match l[m]? with
    | some r => r.off + 1
    | none => first
def fetchF (p : PartD) (first : Int) (m : Nat) (com : Bool) : List RowD × Int :=
  if m < (fromF p first).length then ((fromF p first).take m, nextF first m (fromF p first)) else (fromF p first ++ (if com then [] else (pendF p.opens).take (m - (fromF p first).length)), p.fin)
/-- What Fetch answers. -/
def FetchF (p : PartD) (first most : Int) (com : Bool) : List RowD × Int × Int :=
  if decide (most < 0) || decide (64 < most) then ([], 0, 2) else if !partB p then ([], 0, 2) else if !inB p first then ([], 0, 130) else ((fetchF p first most.toNat com).1, (fetchF p first most.toNat com).2, 0)
theorem zeroRows {K : Know} {v : Value} {n e : Int} (h : Rep K (.tup [nilV, int n, int e]) v) : Rep K (.tup [.lst 5 [], int n, int e]) v := by
  cases h with
  | tup hl hv =>
    refine .tup hl (fun j x v hx hvv => ?_)
    match j with
    | 0 =>
      simp only [List.getElem?_cons_zero, Option.some.injEq] at hx
      have := hv 0 _ v rfl hvv
      subst hx; cases this
      exact rep_nil _ _
    | j + 1 => exact hv (j + 1) x v hx hvv
theorem part_ris {p : PartD} (h : partB p = true) : risB (p.rows.map (·.off)) = true := by
  simp only [partB, Bool.and_eq_true] at h; exact h.1.1.1.2
theorem part_range {p : PartD} (h : partB p = true) : 0 ≤ p.start ∧ p.start ≤ p.fin ∧ p.fin ≤ 1048576 := by
  simp only [partB, Bool.and_eq_true, Bool.not_eq_true', rangeBad, Bool.or_eq_false_iff, decide_eq_false_iff_not] at h
  omega
theorem part_rows {p : PartD} (h : partB p = true) : ∀ r ∈ p.rows, p.start ≤ r.off ∧ r.off < p.fin := by
  intro r hr
  have hr1 := part_ris h
  obtain ⟨k, hk, rfl⟩ := List.getElem_of_mem hr
  have he : endsBad p = false := by simp only [partB, Bool.and_eq_true, Bool.not_eq_true'] at h; exact h.1.1.2
  have hg : p.rows[p.rows.length - 1]? = some (p.rows[p.rows.length - 1]'(by omega)) := List.getElem?_eq_getElem (by omega)
  have h0 : p.rows[0]? = some (p.rows[0]'(by omega)) := List.getElem?_eq_getElem (by omega)
  unfold endsBad at he
  rw [List.head?_eq_getElem?, List.getLast?_eq_getElem?, h0, hg] at he
  simp only [Bool.or_eq_false_iff, decide_eq_false_iff_not] at he
  have lt : ∀ i j (hj : j < p.rows.length) (hij : i < j), (p.rows[i]).off < (p.rows[j]).off := fun i j hj hij => by
    have := ris_get _ hr1 i j (by simpa using hj) hij
    simpa using this
  constructor
  · rcases Nat.eq_zero_or_pos k with h1 | h1
    · subst h1; omega
    · have := lt 0 k hk h1; omega
  · rcases Nat.lt_or_ge k (p.rows.length - 1) with h1 | h1
    · have := lt k (p.rows.length - 1) (by omega) h1; omega
    · have e : k = p.rows.length - 1 := by omega
      subst e; omega
theorem part_offs {p : PartD} (h : partB p = true) : ∀ r ∈ p.rows, 0 ≤ r.off ∧ r.off < 2 ^ 40 := fun r hr => by
  have := part_range h
  have := part_rows h r hr
  omega
theorem Check_fun (p : PartD) (hs : Small p) : Fun Tryd.prog 110 [.agg p.dv] (int (if partB p then 0 else 2)) := by
  have c1 := check_fun p (by have := hs.rows; omega) (by have := hs.opens; omega)
  have c2 := code_err_read partTxt 2
  have c3 := code_nil_read
  simp only [PartD.dv] at c1
  (refine Fun.of_body Tryd.func110 rfl rfl Tryd.ntmps110 Tryd.results110 (by simp) ?_)
  cases hp : partB p <;> (
    simp only [hp, if_true, if_false, Bool.false_eq_true] at c1
    (repeat (first | refine Wp.skip ?_ | refine Wp.exit ?_ | refine Wp.ret ?_ | refine Wp.block ?_ | refine Wp.label ?_ | ((first | (first | refine Wp.sreg (fun K hK => ?_) | refine Wp.reg (fun K hK => ?_) | refine Wp.sdrw mixed (fun K hK => ?_) | refine Wp.drw mixed (fun K hK => ?_)) | refine Wp.condG (fun K hT hF => ?_)); (repeat ((first | (have hX := hK; clear hX) | (have hX := hT; clear hX)); simp (maxSteps := 2000000) (disch := omega) only [RUN, TY, bops, bgd, bgo, bres, bdst, guardB, aop, evalS, ofV, SV.ofD, Res.pure, aAlloc, aBox, aLoad, aStore, ldv, aField, aPart, aIndexAddr, aLen, aSlice, aBuild, aBuildSlice, afill, placeS, aIface, aMakeFunc, aExtract, aMakeSlice, abuiltin, aAppend, SV.exact, CV.exact, SV.nat, CV.lstOf, CV.lenOf, SV.cells, CV.one, D.one, Value.oneCell', mapO, CV.toD0, CV.toD, SV.toD, splice, chunk, zrow, onat, isFull, capD, ownId, ptrLike, nilD, retV, retD, bodyQ, thenQ, blockQ, dsts, reduceCtorEq, reduceIte, if_true, if_false, ite_true, ite_false, Nat.reduceBEq, Nat.reduceEqDiff, Nat.reduceAdd, Nat.reduceMul, Nat.reduceSub, Nat.reduceLT, Nat.reduceLeDiff, Nat.reduceBNe, Int.reduceLE, Int.reduceLT, Int.reduceBEq, Int.reduceBNe, Int.reduceEq, Int.reduceNeg, Int.reduceAdd, Int.reduceSub, Int.reduceToNat, ne_eq, true_implies, false_implies, forall_const, implies_true, exists_eq_left, exists_eq_left', eq_self, undef, eqL, eqH, toNat_k1, nonneg_k1, Int.add_sub_cancel, Int.cast_ofNat_Int, entryY_env, entryY_H, entryY_nx, entryY_sz, entryY_fx, ofHB_cons, ofHB_nil, rb_upd, baseIs_upd, setP_cons, setP_nil, roundS, afterS, fxR, PartD.dv]; (first | (first | (refine hK _ ?_; clear hK K) | (refine ⟨by kernel_rfl, hK _ ?_⟩; clear hK K) | (refine hT ?_; clear hT hF K) | (refine hF ?_; clear hT hF K)) | refine bcall_f (by assumption) ?_ | refine bcall_a (by assumption) ?_))); fail_if_success (first | (have hX := hK; clear hX) | (have hX := hT; clear hX))) | refine Wp.seq ?_))
    simp (maxSteps := 2000000) (disch := omega) only [RUN, TY, bops, bgd, bgo, bres, bdst, guardB, aop, evalS, ofV, SV.ofD, Res.pure, aAlloc, aBox, aLoad, aStore, ldv, aField, aPart, aIndexAddr, aLen, aSlice, aBuild, aBuildSlice, afill, placeS, aIface, aMakeFunc, aExtract, aMakeSlice, abuiltin, aAppend, SV.exact, CV.exact, SV.nat, CV.lstOf, CV.lenOf, SV.cells, CV.one, D.one, Value.oneCell', mapO, CV.toD0, CV.toD, SV.toD, splice, chunk, zrow, onat, isFull, capD, ownId, ptrLike, nilD, retV, retD, bodyQ, thenQ, blockQ, dsts, reduceCtorEq, reduceIte, if_true, if_false, ite_true, ite_false, Nat.reduceBEq, Nat.reduceEqDiff, Nat.reduceAdd, Nat.reduceMul, Nat.reduceSub, Nat.reduceLT, Nat.reduceLeDiff, Nat.reduceBNe, Int.reduceLE, Int.reduceLT, Int.reduceBEq, Int.reduceBNe, Int.reduceEq, Int.reduceNeg, Int.reduceAdd, Int.reduceSub, Int.reduceToNat, ne_eq, true_implies, false_implies, forall_const, implies_true, exists_eq_left, exists_eq_left', eq_self, undef, eqL, eqH, toNat_k1, nonneg_k1, Int.add_sub_cancel, Int.cast_ofNat_Int, entryY_env, entryY_H, entryY_nx, entryY_sz, entryY_fx, ofHB_cons, ofHB_nil, rb_upd, baseIs_upd, setP_cons, setP_nil, roundS, afterS, fxR])
end Go.Proofs.YticbdcpdooahjaaDoor
