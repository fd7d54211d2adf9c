/- Package file: Bytes. -/
import Derived.Test.YtepcpdionlfkhaaGreatDoorFlD
import Derived.Test.YtepcpdionlfkhaaGreatDoorMacH
namespace Go.Proofs.YtepcpdionlfkhaaGreatDoor
open Go Go.RowKit
set_option maxHeartbeats 8000000
set_option maxRecDepth 100000
set_option linter.unusedVariables false
set_option linter.unusedSimpArgs false
/-- How many loads have a frame, from the first on. -/
def goodN : List (List UInt8) → Nat
  | [] => 0
  | l :: ls => if l.length ≤ 1024 then goodN ls + 1 else 0
theorem goodN_le : ∀ ls, goodN ls ≤ ls.length
  | [] => Nat.le_refl _
  | l :: ls => by
    have := goodN_le ls
    simp only [goodN, List.length_cons]
    split <;> omega
theorem goodN_lt : ∀ (ls : List (List UInt8)) (i : Nat) (l : List UInt8), ls[i]? = some l → i < goodN ls → l.length ≤ 1024
  | [], i, l, h, _ => by simp at h
  | x :: ls, 0, l, h, hi => by
    simp only [List.getElem?_cons_zero, Option.some.injEq] at h
    subst h
    simp only [goodN] at hi
    split at hi
    · assumption
    · omega
  | x :: ls, i + 1, l, h, hi => by
    simp only [List.getElem?_cons_succ] at h
    simp only [goodN] at hi
    split at hi
    · exact goodN_lt ls i l h (by omega)
    · omega
theorem goodN_at : ∀ (ls : List (List UInt8)) (l : List UInt8), ls[goodN ls]? = some l → ¬ l.length ≤ 1024
  | [], l, h => by simp [goodN] at h
  | x :: ls, l, h => by
    simp only [goodN] at h
    split at h
    · simp only [List.getElem?_cons_succ] at h
      exact goodN_at ls l h
    · simp only [List.getElem?_cons_zero, Option.some.injEq] at h
      subst h; assumption
abbrev joinF (ls : List (List UInt8)) : List UInt8 := ls.flatMap frF
theorem frF_len (l : List UInt8) : (frF l).length = l.length + 4 := by simp [frF, le4]
theorem joinF_len : ∀ (ls : List (List UInt8)), (∀ l ∈ ls, l.length ≤ 1024) → (joinF ls).length ≤ ls.length * 1028
  | [], _ => by simp
  | l :: ls, h => by
    have h1 := joinF_len ls (fun x hx => h x (List.mem_cons_of_mem _ hx))
    have h2 := h l (List.mem_cons_self ..)
    have h3 := frF_len l
    simp only [joinF, List.flatMap_cons, List.length_append, List.length_cons] at h1 ⊢
    omega
theorem good_take {ls : List (List UInt8)} {n : Nat} (h : n ≤ goodN ls) : ∀ l ∈ ls.take n, l.length ≤ 1024 := fun l hl => by
  obtain ⟨i, hi, rfl⟩ := List.getElem_of_mem hl
  have hi2 : i < n ∧ i < ls.length := by simp only [List.length_take] at hi; omega
  rw [List.getElem_take]
  exact goodN_lt ls i _ (List.getElem?_eq_getElem hi2.2) (by omega)
def errN (k i : Nat) : Int := if k < i then 2 else 0
theorem errN_le {k i : Nat} (h : i ≤ k) : errN k i = 0 := if_neg (by omega)
theorem errN_gt {k i : Nat} (h : k < i) : errN k i = 2 := if_pos h
abbrev fbM (ls : List (List UInt8)) (k i : Nat) : List (Nat × HE) := [(0, .cells [.d (str [])]), (1, .cells [.d (int (errN k i))]), (2, bldH 2 3 (min i k)), (3, .mrow 5 1 (min i k) (byC (joinF (ls.take (min i k)))))]
def bytesF (ls : List (List UInt8)) : List UInt8 := if goodN ls = ls.length then joinF ls else []
def bytesE (ls : List (List UInt8)) : Int := if goodN ls = ls.length then 0 else 2
theorem fbM_ok (ls : List (List UInt8)) (k i : Nat) (o : Obj) : (okIds [] (fbM ls k i ++ [(500, dfO), (999, .obj o)]) && keepsLent (fxR [0, 1, 2, 3] 500) (fbM ls k i ++ [(500, dfO), (999, .obj o)])) = true := by
  cases hmin : min i k <;> simp [okIds, keepsLent, fxR, fbM, hmin, bldH, HE.ids, byC_ids, CV.ids]
theorem fbytes_fun (ls : List (List UInt8)) (hn : ls.length ≤ 100000) (hl : ∀ l ∈ ls, l.length ≤ 1000000) : Fun Tryz.prog 50 [strsD ls] (.tup [str (bytesF ls), int (bytesE ls)]) := by
  have hs := fframes_seq ls (by omega) hl
  have c1 := fframes_fun ls
  have hk := goodN_le ls
  (refine Fun.of_body Tryz.func50 rfl rfl Tryz.ntmps50 Tryz.results50 (by simp) ?_)
  (first | refine Wp.sregG ?_ | refine Wp.regG ?_ | (refine Wp.seq ?_; first | refine Wp.sregG ?_ | refine Wp.regG ?_))
  (refine GRun.done (fun K hK => ?_); simp (maxSteps := 2000000) (disch := omega) only [RUN, TY, RUNB, aop, Value.oneCell', Nat.reduceBEq, Nat.reduceAdd, Nat.reduceLT]; refine hK _ ?_; clear hK K)
  (first | refine Wp.sregG ?_ | refine Wp.regG ?_ | (refine Wp.seq ?_; first | refine Wp.sregG ?_ | refine Wp.regG ?_))
  refine GRun.bldNew rfl ⟨by kernel_rfl, by kernel_rfl, ?_, ?_, rfl, rfl⟩ ?_
  · simp (maxSteps := 2000000) (disch := omega) only [RUN, Nat.reduceBEq]
  · simp (maxSteps := 2000000) (disch := omega) only [RUN, Nat.reduceBEq, Nat.reduceAdd]
  (refine GRun.done (fun K hK => ?_); simp (maxSteps := 2000000) (disch := omega) only [RUN, RUNB, Nat.reduceAdd]; refine hK _ ?_; clear hK K)
  (repeat (first | apply Wp.skip | apply Wp.exit | apply Wp.ret | apply Wp.block | apply Wp.label | ((first | refine Wp.sreg (fun K hK => ?_) | refine Wp.reg (fun K hK => ?_) | refine Wp.sdrw mixed (fun K hK => ?_) | refine Wp.drw mixed (fun K hK => ?_) | refine Wp.condG (fun K hK hF => ?_)); (repeat (revert hK; intro hK; simp (maxSteps := 2000000) (disch := omega) only [RUN, RUNB, aop, SV.ofD, oWn, Nat.reduceBEq, Nat.reduceAdd, Nat.reduceLT]; (first | (refine hK _ ?_; clear hK K) | (refine ⟨by kernel_rfl, hK _ ?_⟩; clear hK K) | (refine hK ?_; clear hK hF K) | (refine hF ?_; clear hK hF K) | refine bcf (by assumption) ?_ | refine bca (by assumption) ?_))); fail_if_success (revert hK; intro hK)) | apply Wp.seq))
  refine Wp.weak (show Weak _ (⟨ofL [(2, .c (.own 0 0)), (3, .c (.own 1 0)), (4, .c (.own 2 0)), (8, .c (.d (.fn (.func 151) [.ptr [strsD ls] 0])))], ofH (fbM ls (goodN ls) 0), 4, 17, 0⟩ : St) from Weak.keep rfl rfl ?_) ?_
  · simp (maxSteps := 2000000) (disch := omega) only [RUN, RUNB, Nat.reduceBEq, errN_le (Nat.zero_le _), Nat.zero_min]
  have hfin : (if goodN ls = ls.length then (.tup [str (joinF ls), int 0] : D) else .tup [str [], int 2]) = .tup [str (bytesF ls), int (bytesE ls)] := by
    unfold bytesF bytesE; split <;> rfl
  rw [← hfin]
  clear hfin
  obtain ⟨k, hkk⟩ : ∃ k, k = goodN ls := ⟨_, rfl⟩
  have hgl := goodN_lt ls
  have hga := goodN_at ls
  have hjl : ∀ n, n ≤ k → (joinF (ls.take n)).length ≤ 200000000 := fun n h => by
    have h1 := joinF_len (ls.take n) (good_take (by omega))
    rw [List.length_take] at h1
    omega
  rw [← hkk] at hgl hga hk ⊢
  refine Wp.rangeFunc (xs := ls.map yldF) rfl rfl hs 500 (fun i => fbM ls k i) [0, 1, 2, 3] (fun i => decide (i < k)) (fun _ => .ret) rfl (fun _ => rfl) rfl (fun i => ?_) rfl (fun i id h => by cases h) rfl (fun x hx => by obtain ⟨r, _, rfl⟩ := List.mem_map.1 hx; rfl) ?_ ?_ ?_
  · cases hmin : min i k with
    | zero => simp [okIds, hmin, fbM, bldH, HE.ids, byC_ids, CV.ids]
    | succ m => simp [okIds, hmin, fbM, bldH, HE.ids, byC_ids, CV.ids]
  · intro i hi hc o1
    have hi' : i < ls.length := by simpa using hi
    have hg : ls[i]? = some ls[i] := List.getElem?_eq_getElem hi'
    have htk := take_succ_get ls i hi'
    have hik : i ≤ k := by
      rcases Nat.eq_zero_or_pos i with h0 | h0
      · omega
      · have := of_decide_eq_true (hc (i - 1) (by omega)); omega
    simp only [List.getElem_map]
    generalize ls[i] = l at *
    have m1 : min i k = i := by omega
    have e1 : errN k i = 0 := errN_le hik
    by_cases hlt : i < k
    · have hll := hgl i l hg hlt
      have e2 : errN k (i + 1) = 0 := errN_le (by omega)
      have b1e : b1 l = frF l := if_pos hll
      have e1e : e1F l = 0 := if_pos hll
      have m2 : min (i + 1) k = i + 1 := by omega
      have d1 : decide (i < k) = true := decide_eq_true hlt
      have hfl := frF_len l
      have hjl2 := hjl i hik
      have c2 := wr_fun (joinF (ls.take i)) (frF l) i (by intro q; rw [q] at hfl; simp at hfl) (by omega)
      (repeat (first | apply Wp.skip | apply Wp.exit | apply Wp.ret | apply Wp.block | apply Wp.label | ((first | refine Wp.sreg (fun K hK => ?_) | refine Wp.reg (fun K hK => ?_) | refine Wp.sdrw mixed (fun K hK => ?_) | refine Wp.drw mixed (fun K hK => ?_) | refine Wp.condG (fun K hK hF => ?_)); (repeat (revert hK; intro hK; simp (maxSteps := 2000000) (disch := omega) only [RUN, RUNB, aop, SV.ofD, Nat.reduceBEq, Nat.reduceAdd, Nat.reduceLT, fbM, yldF, m1, e1, b1e, e1e]; (first | (refine hK _ ?_; clear hK K) | (refine ⟨by kernel_rfl, hK _ ?_⟩; clear hK K) | (refine hK ?_; clear hK hF K) | (refine hF ?_; clear hK hF K) | refine bcf (by assumption) ?_ | refine bca (by assumption) ?_))); fail_if_success (revert hK; intro hK)) | apply Wp.seq))
      refine ⟨rfl, by simp (maxSteps := 2000000) (disch := omega) only [RUN, Nat.reduceBEq], rfl, fun o2 => ?_⟩
      (repeat (first | apply Wp.skip | apply Wp.exit | apply Wp.ret | apply Wp.block | apply Wp.label | ((first | refine Wp.sreg (fun K hK => ?_) | refine Wp.reg (fun K hK => ?_) | refine Wp.sdrw mixed (fun K hK => ?_) | refine Wp.drw mixed (fun K hK => ?_) | refine Wp.condG (fun K hK hF => ?_)); (repeat (revert hK; intro hK; simp (maxSteps := 2000000) (disch := omega) only [RUN, RUNB, aop, ofV, oWn, Nat.reduceBEq, Nat.reduceAdd, Nat.reduceLT, Int.reduceBNe]; (first | (refine hK _ ?_; clear hK K) | (refine ⟨by kernel_rfl, hK _ ?_⟩; clear hK K) | (refine hK ?_; clear hK hF K) | (refine hF ?_; clear hK hF K) | refine bcf (by assumption) ?_ | refine bca (by assumption) ?_))); fail_if_success (revert hK; intro hK)) | apply Wp.seq))
      (first | refine Wp.sregG ?_ | refine Wp.regG ?_ | (refine Wp.seq ?_; first | refine Wp.sregG ?_ | refine Wp.regG ?_))
      (refine GRun.at 1 (fun K hK => ?_); simp (maxSteps := 2000000) (disch := omega) only [RUN, RUNB, aop, Nat.reduceBEq, Nat.reduceAdd, Nat.reduceLT]; refine hK _ ?_; clear hK K)
      (refine GRun.call (c2) [(0, 2), (1, 3)] 1000 rfl rfl ?_ ?_; (focus (simp (maxSteps := 2000000) (disch := omega) only [RUN, RUNB, reduceCtorEq, Nat.reduceBEq, Nat.reduceEqDiff, Nat.reduceLT, callG, atB, newB, callS, swp, SV.ren, CV.ren, bldM, bldH_ren, mrow_byC_ren]; done)))
      (refine GRun.done (fun K hK => ?_); simp (maxSteps := 2000000) (disch := omega) only [RUN, RUNB, reduceCtorEq, Nat.reduceBEq, Nat.reduceEqDiff, putB, swp, SV.ren, CV.ren, bldM, bldH_ren, mrow_byC_ren]; refine hK _ ?_; clear hK K)
      (repeat (first | apply Wp.skip | apply Wp.exit | apply Wp.ret | apply Wp.block | apply Wp.label | ((first | refine Wp.sreg (fun K hK => ?_) | refine Wp.reg (fun K hK => ?_) | refine Wp.sdrw mixed (fun K hK => ?_) | refine Wp.drw mixed (fun K hK => ?_) | refine Wp.condG (fun K hK hF => ?_)); (repeat (revert hK; intro hK; simp (maxSteps := 2000000) (disch := omega) only [RUN, TY, RUNB, aop, ofV, SV.ofD, aLd, aSt, aFd, aPt, aLen, aSl, aIf, aMF, aXt, aBu, aCX, aCL, aCy, CV.exact, CV.lstOf, CV.lenOf, CV.one, D.one, Value.oneCell', CV.toD0, iFl, oWn, pLk, nD0, rD0, bQ0, tQ0, kQ0, reduceCtorEq, reduceIte, Nat.reduceBEq, Nat.reduceEqDiff, Nat.reduceAdd, Nat.reduceMul, Nat.reduceSub, Nat.reduceLT, Nat.reduceLeDiff, Nat.reduceBNe, Int.reduceLE, Int.reduceLT, Int.reduceBEq, Int.reduceBNe, Int.reduceEq, Int.reduceNeg, Int.reduceAdd, Int.reduceSub, Int.reduceToNat, forall_const]; (first | (refine hK _ ?_; clear hK K) | (refine ⟨by kernel_rfl, hK _ ?_⟩; clear hK K) | (refine hK ?_; clear hK hF K) | (refine hF ?_; clear hK hF K) | refine bcf (by assumption) ?_ | refine bca (by assumption) ?_))); fail_if_success (revert hK; intro hK)) | apply Wp.seq))
      have hjn : joinF (ls.take (i + 1)) = joinF (ls.take i) ++ frF l := by rw [htk]; simp [joinF]
      refine ⟨Weak.keep rfl (fbM_ok _ _ _ _) ?_, .inl ⟨rfl, d1⟩⟩
      simp (maxSteps := 2000000) (disch := omega) only [RUN, RUNB, Nat.reduceBEq, fbM, m2, e2, hjn]
    · obtain rfl : i = k := by omega
      have hll := hga l hg
      have b1e : b1 l = [] := if_neg hll
      have e1e : e1F l = 2 := if_neg hll
      have e2 : errN i (i + 1) = 2 := errN_gt (by omega)
      have m2 : min (i + 1) i = i := by omega
      (repeat (first | apply Wp.skip | apply Wp.exit | apply Wp.ret | apply Wp.block | apply Wp.label | ((first | refine Wp.sreg (fun K hK => ?_) | refine Wp.reg (fun K hK => ?_) | refine Wp.sdrw mixed (fun K hK => ?_) | refine Wp.drw mixed (fun K hK => ?_) | refine Wp.condG (fun K hK hF => ?_)); (repeat (revert hK; intro hK; simp (maxSteps := 2000000) (disch := omega) only [RUN, RUNB, aop, SV.ofD, Nat.reduceBEq, Nat.reduceAdd, Nat.reduceLT, fbM, yldF, m1, e1, b1e, e1e]; (first | (refine hK _ ?_; clear hK K) | (refine ⟨by kernel_rfl, hK _ ?_⟩; clear hK K) | (refine hK ?_; clear hK hF K) | (refine hF ?_; clear hK hF K) | refine bcf (by assumption) ?_ | refine bca (by assumption) ?_))); fail_if_success (revert hK; intro hK)) | apply Wp.seq))
      refine ⟨rfl, by simp (maxSteps := 2000000) (disch := omega) only [RUN, Nat.reduceBEq], rfl, fun o2 => ?_⟩
      (repeat (first | apply Wp.skip | apply Wp.exit | apply Wp.ret | apply Wp.block | apply Wp.label | ((first | refine Wp.sreg (fun K hK => ?_) | refine Wp.reg (fun K hK => ?_) | refine Wp.sdrw mixed (fun K hK => ?_) | refine Wp.drw mixed (fun K hK => ?_) | refine Wp.condG (fun K hK hF => ?_)); (repeat (revert hK; intro hK; simp (maxSteps := 2000000) (disch := omega) only [RUN, TY, RUNB, aop, ofV, aSt, CV.one, D.one, Value.oneCell', Nat.reduceBEq, Nat.reduceAdd, Nat.reduceLT, Int.reduceBNe]; (first | (refine hK _ ?_; clear hK K) | (refine ⟨by kernel_rfl, hK _ ?_⟩; clear hK K) | (refine hK ?_; clear hK hF K) | (refine hF ?_; clear hK hF K) | refine bcf (by assumption) ?_ | refine bca (by assumption) ?_))); fail_if_success (revert hK; intro hK)) | apply Wp.seq))
      refine ⟨Weak.keep rfl (fbM_ok _ _ _ _) ?_, .inr ⟨by simp, rfl, rfl⟩⟩
      simp (maxSteps := 2000000) (disch := omega) only [RUN, RUNB, Nat.reduceBEq, fbM, m2, e2]
  · intro i hi hc hnn
    have hi' : i < ls.length := by simpa using hi
    have hik : i = k := by
      have h1 := of_decide_eq_false hnn
      rcases Nat.eq_zero_or_pos i with h0 | h0
      · omega
      · have := of_decide_eq_true (hc (i - 1) (by omega)); omega
    have e2 : errN k (i + 1) = 2 := errN_gt (by omega)
    have hne : ¬ k = ls.length := by omega
    refine ⟨rfl, ?_⟩
    rw [if_neg hne]
    (repeat (first | apply Wp.skip | apply Wp.exit | apply Wp.ret | apply Wp.block | apply Wp.label | ((first | refine Wp.sreg (fun K hK => ?_) | refine Wp.reg (fun K hK => ?_) | refine Wp.sdrw mixed (fun K hK => ?_) | refine Wp.drw mixed (fun K hK => ?_) | refine Wp.condG (fun K hK hF => ?_)); (repeat (revert hK; intro hK; simp (maxSteps := 2000000) (disch := omega) only [RUN, TY, RUNB, aop, ofV, SV.ofD, aLd, aSt, aFd, aPt, aLen, aSl, aIf, aMF, aXt, aBu, aCX, aCL, aCy, CV.exact, CV.lstOf, CV.lenOf, CV.one, D.one, Value.oneCell', CV.toD0, iFl, oWn, pLk, nD0, rD0, bQ0, tQ0, kQ0, reduceCtorEq, reduceIte, Nat.reduceBEq, Nat.reduceEqDiff, Nat.reduceAdd, Nat.reduceMul, Nat.reduceSub, Nat.reduceLT, Nat.reduceLeDiff, Nat.reduceBNe, Int.reduceLE, Int.reduceLT, Int.reduceBEq, Int.reduceBNe, Int.reduceEq, Int.reduceNeg, Int.reduceAdd, Int.reduceSub, Int.reduceToNat, forall_const, fbM, e2]; (first | (refine hK _ ?_; clear hK K) | (refine ⟨by kernel_rfl, hK _ ?_⟩; clear hK K) | (refine hK ?_; clear hK hF K) | (refine hF ?_; clear hK hF K) | refine bcf (by assumption) ?_ | refine bca (by assumption) ?_))); fail_if_success (revert hK; intro hK)) | apply Wp.seq))
    simp (maxSteps := 2000000) (disch := omega) only [RUN, TY, RUNB, aLd, rD0, bQ0, tQ0, kQ0, Nat.reduceBEq, fbM, e2]
  · intro hc
    have hlen : (ls.map yldF).length = ls.length := by simp
    have hkl : k = ls.length := by
      rcases Nat.lt_or_ge k ls.length with h | h
      · have := of_decide_eq_true (hc k (by omega)); omega
      · omega
    have m2 : min ls.length k = k := by omega
    have e2 : errN k ls.length = 0 := errN_le (by omega)
    have htk2 : ls.take k = ls := List.take_of_length_le (by omega)
    have hj2 := hjl k (Nat.le_refl _)
    rw [htk2] at hj2
    rw [if_pos hkl]
    refine Wp.seq ?_
    refine Wp.weak (show Weak _ (⟨ofL [(2, .c (.own 0 0)), (3, .c (.own 1 0)), (4, .c (.own 2 0))], ofH [(0, .cells [.d (str [])]), (1, .cells [.d (int 0)]), (2, bldH 2 3 k), (3, .mrow 5 1 k (byC (joinF ls))), (500, dfO)], 4, 17, ⟨[], [500], false, none⟩⟩ : St) from Weak.keep rfl ?_ ?_) ?_
    · cases k <;> simp [okIds, keepsLent, bldH, HE.ids, byC_ids, CV.ids, SV.ids]
    · simp (maxSteps := 2000000) (disch := omega) only [RUN, RUNB, Nat.reduceBEq, fbM, hlen, m2, e2, htk2]
    refine Wp.regG ?_
    refine GRun.callR (fid := 97) (H' := upd (ofH [(0, .cells [.d (str [])]), (1, .cells [.d (int 0)]), (2, bldH 2 3 k), (3, .mrow 5 1 k (byC (joinF ls))), (500, dfO)]) 3 (some (.mrow 5 1 (k + 1) []))) (x := vs (joinF ls)) (nx' := 4) rfl (by kernel_rfl) ⟨by kernel_rfl, by kernel_rfl, by kernel_rfl⟩ (fun F K0 g a w hr => ?_) ?_ ?_
    · have hv := evalS_rep hr (.tmp 4)
      obtain ⟨b, hb, hev, _⟩ := hv
      rw [show ((#[.tmp 4] : Array Operand).map a.eval) = #[.pointer (some ⟨b, 0, none⟩)] by simp [hev]]
      exact str_sem (id := 2) (τ := 3) (n := k) hr.mem hb rfl rfl (fun h0 => by rw [← htk2, h0]; rfl) (fun h0 q => by
        cases hls : ls with
        | nil => rw [hls] at hkl; simp at hkl; omega
        | cons x r =>
          have h3 := frF_len x
          rw [hls, joinF, List.flatMap_cons] at q
          have := (List.append_eq_nil_iff.1 q).1
          rw [this] at h3; simp at h3) (by omega)
    · intro i hi
      have hi : i = 500 := by simpa using hi
      subst hi
      rfl
    (refine GRun.done (fun K hK => ?_); simp (maxSteps := 2000000) (disch := omega) only [RUN, TY, RUNB, aop, ofV, aSt, CV.one, D.one, Value.oneCell', Nat.reduceBEq, Nat.reduceAdd]; refine hK _ ?_; clear hK K)
    (repeat (first | apply Wp.skip | apply Wp.exit | apply Wp.ret | apply Wp.block | apply Wp.label | ((first | refine Wp.sreg (fun K hK => ?_) | refine Wp.reg (fun K hK => ?_) | refine Wp.sdrw mixed (fun K hK => ?_) | refine Wp.drw mixed (fun K hK => ?_) | refine Wp.condG (fun K hK hF => ?_)); (repeat (revert hK; intro hK; simp (maxSteps := 2000000) (disch := omega) only [RUN, TY, RUNB, aop, ofV, SV.ofD, aLd, aSt, aFd, aPt, aLen, aSl, aIf, aMF, aXt, aBu, aCX, aCL, aCy, CV.exact, CV.lstOf, CV.lenOf, CV.one, D.one, Value.oneCell', CV.toD0, iFl, oWn, pLk, nD0, rD0, bQ0, tQ0, kQ0, reduceCtorEq, reduceIte, Nat.reduceBEq, Nat.reduceEqDiff, Nat.reduceAdd, Nat.reduceMul, Nat.reduceSub, Nat.reduceLT, Nat.reduceLeDiff, Nat.reduceBNe, Int.reduceLE, Int.reduceLT, Int.reduceBEq, Int.reduceBNe, Int.reduceEq, Int.reduceNeg, Int.reduceAdd, Int.reduceSub, Int.reduceToNat, forall_const]; (first | (refine hK _ ?_; clear hK K) | (refine ⟨by kernel_rfl, hK _ ?_⟩; clear hK K) | (refine hK ?_; clear hK hF K) | (refine hF ?_; clear hK hF K) | refine bcf (by assumption) ?_ | refine bca (by assumption) ?_))); fail_if_success (revert hK; intro hK)) | apply Wp.seq))
    simp (maxSteps := 2000000) (disch := omega) only [RUN, TY, RUNB, aLd, rD0, bQ0, Nat.reduceBEq]
end Go.Proofs.YtepcpdionlfkhaaGreatDoor
