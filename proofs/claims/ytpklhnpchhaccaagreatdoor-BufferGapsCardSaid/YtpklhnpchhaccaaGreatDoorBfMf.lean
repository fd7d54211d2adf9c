/- The abstract machine (BfV, BfW, BfX, BfWk). -/
import Derived.Test.YtpklhnpchhaccaaGreatDoorBfT
import Derived.Test.YtpklhnpchhaccaaGreatDoorInMd
import Derived.Test.YtpklhnpchhaccaaGreatDoorCpMc
import Derived.Test.YtpklhnpchhaccaaGreatDoorBfMh
import Derived.Test.YtpklhnpchhaccaaGreatDoorRhMb
namespace Go.Proofs.YtpklhnpchhaccaaGreatDoor
open Go Go.RowKit
set_option maxHeartbeats 4000000
set_option maxRecDepth 100000
set_option linter.unusedVariables false
set_option linter.unusedSimpArgs false
def rW (pid : Int) (acc : List BatD) (e : EntD) : List BatD := if e.b.pid ≠ pid then acc else if e.kind = 3 then (if e.yes = true then [] else acc ++ [e.b]) else if e.kind = 4 then [] else acc
def jF (l : List EntD) (pid : Int) : List BatD := l.foldl (rW pid) []
theorem aQf {w : Wts} (hn : (w.map (·.1)).Nodup) (p pid : Int) : cD (cH w p) pid = if pid = p then [] else cD w pid := by
 rw [wG hn]
 by_cases h : pid = p
 ·rw [if_pos h]
  refine xS (fun y hy e => ?_)
  have := (List.mem_filter.1 hy).2
  simp at this
  omega
 ·rw [if_neg h]
  exact sW hn (fun y hy => by simp; omega)
theorem aSy {w : Wts} (hn : (w.map (·.1)).Nodup) (p pid : Int) (l : List BatD) (hn2 : ((dP w p l).map (·.1)).Nodup) : cD (dP w p l) pid = if pid = p then l else cD w pid := by
 have hin : ∀ y ∈ w, y.1 ≠ p → y ∈ dP w p l := fun y hy hne => by
  unfold dP
  cases h : lS w p with
  | false => rw [if_neg Bool.false_ne_true]; exact List.mem_append.2 (.inl hy)
  | true =>
   rw [if_pos rfl]
   obtain ⟨i, hi⟩ := List.mem_iff_getElem?.1 hy
   refine List.mem_iff_getElem?.2 ⟨i, ?_⟩
   rw [List.getElem?_set]
   split
   ·rename_i e
    subst e
    rw [kK h] at hi
    cases hi
    exact absurd rfl hne
   ·exact hi
 have hp : (p, l) ∈ dP w p l := by
  unfold dP
  cases h : lS w p with
  | false => rw [if_neg Bool.false_ne_true]; simp
  | true =>
   rw [if_pos rfl]
   exact List.mem_set (of_decide_eq_true h) _
 by_cases h : pid = p
 ·subst h
  rw [if_pos rfl]
  exact aEs hn2 hp
 ·rw [if_neg h]
  cases hk : lS w pid with
  | true => exact aEs hn2 (hin _ (List.mem_of_getElem? (kK hk)) h)
  | false =>
   rw [pA hk]
   refine xS (fun y hy e => ?_)
   rcases aKp hy with hy | rfl
   ·exact jT hk (List.mem_map.2 ⟨y, hy, e⟩)
   ·exact h e.symm
theorem aNf {k : Nat} {s t : RefS} {e : EntD} (h : LogI k s) (hs : bA s e = some t) (pid : Int) : cD t.w pid = rW pid (cD s.w pid) e := by
 have hI := rB h hs
 have hn2 := hI.ow.nd
 obtain ⟨ho, hf, hL⟩ := aKg hs
 have hA := aQf h.ow.nd e.b.pid pid
 unfold rW
 cases hL with
 | data k0 tx ok hp hw => rw [hw, if_neg (show ¬ e.kind = 3 by omega), if_neg (show ¬ e.kind = 4 by omega), ite_self]
 | cut k0 ge le hp hw => rw [hw, if_neg (show ¬ e.kind = 3 by omega), if_neg (show ¬ e.kind = 4 by omega), ite_self]
 | row k0 hp hw => rw [hw, if_neg (show ¬ e.kind = 3 by omega), if_neg (show ¬ e.kind = 4 by omega), ite_self]
 | state k0 hp hw => rw [hw, if_neg (show ¬ e.kind = 3 by omega), if_neg (show ¬ e.kind = 4 by omega), ite_self]
 | wait k0 ok y hp hw =>
  rw [hw] at hn2 ⊢
  rw [aSy h.ow.nd _ _ _ hn2, if_pos k0, y, if_neg Bool.false_ne_true]
  by_cases e1 : pid = e.b.pid
  ·rw [if_pos e1, if_neg (show ¬ (e.b.pid ≠ pid) by omega), e1]
  ·rw [if_neg e1, if_pos (show e.b.pid ≠ pid by omega)]
 | last k0 ok y nx tk hp hw =>
  rw [hw, hA, if_pos k0, y, if_pos rfl]
  by_cases e1 : pid = e.b.pid
  ·rw [if_pos e1, if_neg (show ¬ (e.b.pid ≠ pid) by omega)]
  ·rw [if_neg e1, if_pos (show e.b.pid ≠ pid by omega)]
 | drop k0 ok hp hw =>
  rw [hw, hA, if_neg (show ¬ e.kind = 3 by omega), if_pos k0]
  by_cases e1 : pid = e.b.pid
  ·rw [if_pos e1, if_neg (show ¬ (e.b.pid ≠ pid) by omega)]
  ·rw [if_neg e1, if_pos (show e.b.pid ≠ pid by omega)]
theorem aHm : ∀ (l : List EntD) (k : Nat) (s t : RefS), LogI k s → dJ s l = some t → ∀ pid, cD t.w pid = l.foldl (rW pid) (cD s.w pid)
 | [], k, s, t, h, hl, pid => by cases hl; rfl
 | e :: l, k, s, t, h, hl, pid => by
  have e1 : dJ s (e :: l) = match bA s e with | none => none | some t => dJ t l := rfl
  rw [e1] at hl
  cases hs : bA s e with
  | none => rw [hs] at hl; cases hl
  | some u =>
   rw [hs] at hl
   rw [aHm l (k + 1) u t (rB h hs) hl pid, aNf h hs pid]; rfl
theorem aAs {l : List EntD} {s : RefS} (h : dJ ref0 l = some s) (pid : Int) : cD s.w pid = jF l pid := aHm l 0 ref0 s vF h pid
set_option maxHeartbeats 8000000
theorem aJz {l : List EntD} {k : Nat} (pid : Int) (h : k < l.length) : jF (l.take (k + 1)) pid = rW pid (jF (l.take k) pid) l[k] := by
 unfold jF
 rw [List.take_succ_eq_append_getElem h, List.foldl_append]; rfl
theorem wA (pid : Int) (l : List EntD) : (jF l pid).length ≤ l.length := by
 unfold jF
 have key : ∀ (l : List EntD) (acc : List BatD), (l.foldl (rW pid) acc).length ≤ acc.length + l.length := by
  intro l
  induction l with
  | nil => intro acc; exact Nat.le_refl _
  | cons e l ih =>
   intro acc
   rw [List.foldl_cons]
   have h1 := ih (rW pid acc e)
   have h2 : (rW pid acc e).length ≤ acc.length + 1 := by
    unfold rW
    split
    ·omega
    split
    ·split
     ·simp
     ·simp
    split
    ·simp
    ·omega
   rw [List.length_cons]; omega
 have := key l []
 simpa using this
theorem pP (l : List EntD) (pid : Int) (hl : l.length ≤ 100000) (hr : ∀ e ∈ l, e.b.recs.length ≤ 100000) : bR Tryz.prog 27 [.lst 18 (l.map EntD.dv), int pid] (.lst 5 ((jF l pid).map BatD.dv)) := by
 (refine bR.of_bodyW Tryz.func27 rfl rfl Tryz.ntmps27 Tryz.results27 (by simp) ?_)
 (refine dD ?_)
 refine Wp.weak (aF.nilApp (t := 5) (τ := 60) 62 5 (by (refine bL ?_; try with_reducible exact tt)) (by (refine bL ?_; try with_reducible exact tt))) ?_
 refine Wp.loop (fun k : Nat => ⟨lJ [(1, vi .i64 pid), (5, .c (.app 60 5 ((jF (l.take k) pid).map BatD.dv))), (8, .c (.d (.lst 18 (l.map EntD.dv)))), (9, vi .i64 l.length), (10, vi .i64 k)], bO [(60, .row 62 5 (jF (l.take k) pid).length)], 61, 36, 0⟩) (fun k => k ≤ l.length) (fun k => l.length - k) 0 (Nat.zero_le _) ?_ ?_
 ·refine aF.keep rfl rfl ?_
  simp (maxSteps := 2000000) (disch := omega) only [iK, TY, cF, fB, gR, SV.ofD, eE, fM, gK, gL, bT, gM, fP, fN, gN, fK, gI, gH, gJ, CV.exact, CV.lstOf, CV.lenOf, CV.one, D.one, Value.oneCell', CV.toD0, gZ, oWn, hZ, gB, rD0, iB, gE, hJ, reduceCtorEq, reduceIte, Nat.reduceBEq, Nat.reduceEqDiff, Nat.reduceAdd, Nat.reduceMul, Nat.reduceSub, Nat.reduceLT, Nat.reduceLeDiff, Nat.reduceBNe, Int.reduceLE, Int.reduceLT, Int.reduceBEq, Int.reduceBNe, Int.reduceEq, Int.reduceNeg, Int.reduceAdd, Int.reduceSub, Int.reduceToNat, forall_const, List.take_zero, jF, List.foldl_nil, List.map_nil, List.length_nil]
 intro k hk
 by_cases hkl : k < l.length
 ·have d1 : decide ((k : Int) < (l.length : Int)) = true := decide_eq_true (by omega)
  have hge : l[k]? = some l[k] := List.getElem?_eq_getElem hkl
  have hwk : IntKind.i64.wrap ((k : Int) + 1) = ((k + 1 : Nat) : Int) := by rw [aW (by omega)]; rfl
  have hsn := aJz pid hkl
  have hwl := wA pid (l.take k)
  rw [List.length_take] at hwl
  have hrk := hr _ (List.getElem_mem hkl)
  generalize l[k] = e at *
  generalize jF (l.take k) pid = w at *
  have c1 := rZ e.b (by omega)
  simp only [BatD.dv] at c1
  unfold rW at hsn
  by_cases h1 : e.b.pid ≠ pid
  ·have e1 : (e.b.pid != pid) = true := by simpa using h1
   rw [if_pos h1] at hsn
   (refine gO (ai d1 (ai hge (ai e1 (@EntD.dv.eq_1)))) ?_)
   refine ⟨k + 1, hkl, by omega, aF.keep rfl rfl ?_⟩
   (refine rO (ai hwk (hsn)) ?_; try with_reducible exact tt)
  have e1 : (e.b.pid != pid) = false := by simpa using h1
  rw [if_neg h1] at hsn
  by_cases h3 : e.kind = 3
  ·have e3 : (e.kind == 3) = true := by simpa using h3
   rw [if_pos h3] at hsn
   cases hy : e.yes with
   | true =>
    rw [hy, if_pos rfl] at hsn
    (refine gO (ai d1 (ai hge (ai e1 (ai e3 (ai hy (@EntD.dv.eq_1)))))) ?_)
    refine ⟨k + 1, hkl, by omega, ?_⟩
    refine aF.trans (aF.keep (L := [(1, vi .i64 pid), (5, .c hP), (8, .c (.d (.lst 18 (l.map EntD.dv)))), (9, vi .i64 l.length), (10, vi .i64 (k + 1 : Nat))]) (M := []) (nx := 61) rfl rfl (by (refine rO (hwk) ?_; try with_reducible exact tt))) ?_
    refine aF.trans (aF.nilApp (t := 5) (τ := 60) 62 5 (by (refine bL ?_; try with_reducible exact tt)) (by (refine bL ?_; try with_reducible exact tt))) ?_
    refine aF.keep rfl rfl ?_
    (refine rO (ai hsn (ai @List.map_nil.{0,0} (@List.length_nil.{0}))) ?_; try with_reducible exact tt)
   | false =>
    rw [hy, if_neg Bool.false_ne_true] at hsn
    have hbb : (w.length + 1) * 56 ≤ 140737488355328 := by omega
    (refine gO (ai d1 (ai hge (ai e1 (ai e3 (ai hy (ai hbb (ai @EntD.dv.eq_1 (ai @BatD.dv.eq_1 (@List.length_map.{0,0}))))))))) ?_)
    refine ⟨k + 1, hkl, by omega, aF.keep rfl rfl ?_⟩
    (refine rO (ai hwk (ai hsn (ai @BatD.dv.eq_1 (ai @List.map_append.{0,0} (ai @List.map_cons.{0,0} (ai @List.map_nil.{0,0} (ai @List.length_append.{0} (ai @List.length_cons.{0} (@List.length_nil.{0}))))))))) ?_; try with_reducible exact tt)
  ·have e3 : (e.kind == 3) = false := by simpa using h3
   rw [if_neg h3] at hsn
   by_cases h4 : e.kind = 4
   ·have e4 : (e.kind == 4) = true := by simpa using h4
    rw [if_pos h4] at hsn
    (refine gO (ai d1 (ai hge (ai e1 (ai e3 (ai e4 (@EntD.dv.eq_1)))))) ?_)
    refine ⟨k + 1, hkl, by omega, ?_⟩
    refine aF.trans (aF.keep (L := [(1, vi .i64 pid), (5, .c hP), (8, .c (.d (.lst 18 (l.map EntD.dv)))), (9, vi .i64 l.length), (10, vi .i64 (k + 1 : Nat))]) (M := []) (nx := 61) rfl rfl (by (refine rO (hwk) ?_; try with_reducible exact tt))) ?_
    refine aF.trans (aF.nilApp (t := 5) (τ := 60) 62 5 (by (refine bL ?_; try with_reducible exact tt)) (by (refine bL ?_; try with_reducible exact tt))) ?_
    refine aF.keep rfl rfl ?_
    (refine rO (ai hsn (ai @List.map_nil.{0,0} (@List.length_nil.{0}))) ?_; try with_reducible exact tt)
   ·have e4 : (e.kind == 4) = false := by simpa using h4
    rw [if_neg h4] at hsn
    (refine gO (ai d1 (ai hge (ai e1 (ai e3 (ai e4 (@EntD.dv.eq_1)))))) ?_)
    refine ⟨k + 1, hkl, by omega, aF.keep rfl rfl ?_⟩
    (refine rO (ai hwk (hsn)) ?_; try with_reducible exact tt)
 ·have hke : k = l.length := by omega
  subst hke
  have d1 : decide ((l.length : Int) < (l.length : Int)) = false := by simp
  (refine gO (d1) ?_)
  (refine rO (@List.take_length.{0}) ?_)
  exact ⟨_, rfl, fun _ _ h => h⟩
theorem aKc {e : EntD} (h : ¬ vB e = true) : e.b.recs.length ≤ 40 ∧ e.prod.seen.length ≤ 40 := by
 simp only [vB, wR, Bool.not_eq_true, Bool.or_eq_false_iff, decide_eq_false_iff_not] at h
 exact ⟨by omega, by omega⟩
def pC (x : SideD) : Bool := vA x.l || decide (30 < (x.l.length : Int))
def oQ (l : List SideD) : Bool := decide (20 < (l.length : Int)) || l.any pC
theorem aM8 {l : List SideD} (h : oQ l = false) : l.length ≤ 20 ∧ ∀ x ∈ l, x.l.length ≤ 30 ∧ ∀ e ∈ x.l, e.b.recs.length ≤ 40 ∧ e.prod.seen.length ≤ 40 := by
 unfold oQ at h
 simp only [Bool.or_eq_false_iff, decide_eq_false_iff_not] at h
 refine ⟨by omega, fun x hx => ?_⟩
 have h2 := List.any_eq_false.1 h.2 x hx
 unfold pC at h2
 simp only [Bool.or_eq_true, decide_eq_true_eq, not_or, Bool.not_eq_true] at h2
 have h3 := h2.1
 simp only [vA, Bool.or_eq_false_iff, decide_eq_false_iff_not] at h3
 refine ⟨by omega, fun e he => ?_⟩
 exact aKc (List.any_eq_false.1 h3.2 e he)
theorem aA5 (l : List SideD) : bR Tryz.prog 52 [.lst 2 (l.map SideD.dv)] (iF (oQ l)) := by
 (refine bR.of_body Tryz.func52 rfl rfl Tryz.ntmps52 Tryz.results52 (by simp) ?_)
 (refine dD ?_)
 refine Wp.loop (fun k : Nat => ⟨lJ [(0, .c (.d (.lst 2 (l.map SideD.dv)))), (3, vi .i64 k)], bO [], 0, 32, 0⟩) (fun k => k ≤ l.length ∧ k ≤ 21 ∧ (l.take k).any pC = false) (fun k => l.length - k) 0 ⟨Nat.zero_le _, by omega, rfl⟩ ?_ ?_
 ·refine aF.keep rfl rfl ?_
  (refine bL ?_; try with_reducible exact tt)
 rintro k ⟨hk, hk21, hany⟩
 by_cases hc : k < l.length ∧ k ≤ 20
 ·obtain ⟨hkl, h20⟩ := hc
  have d1 : decide ((k : Int) < (l.length : Int)) = true := decide_eq_true (by omega)
  have d2 : decide ((k : Int) ≤ 20) = true := decide_eq_true (by omega)
  have hge : l[k]? = some l[k] := List.getElem?_eq_getElem hkl
  have hwk : IntKind.i64.wrap ((k : Int) + 1) = ((k + 1 : Nat) : Int) := by rw [aW (by omega)]; rfl
  have hsn : (l.take (k + 1)).any pC = pC l[k] := by
   rw [List.take_succ_eq_append_getElem hkl, List.any_append, hany]; simp
  have hgt : pC l[k] = true → oQ l = true := fun h => by
   unfold oQ
   rw [List.any_eq_true.2 ⟨_, List.getElem_mem hkl, h⟩, Bool.or_true]
  generalize l[k] = x at *
  have c1 := aGa x.l
  (first | refine Wp.sto 11 (vb true) ?_ ?_ | refine Wp.rtoS 11 (vb true) ?_ ?_ | (refine Wp.seq ?_; first | refine Wp.sto 11 (vb true) ?_ ?_ | refine Wp.rtoS 11 (vb true) ?_ ?_))
  ·((refine rO (ai d1 (d2)) ?_; try with_reducible exact tt); (repeat (refine iE (by assumption) ?_; (refine rO (ai d1 (d2)) ?_))))
   all_goals (exact (show bV _ _ = true by kernel_rfl))
  (repeat (first | apply Wp.skip | apply Wp.exit | apply Wp.ret | apply Wp.block | apply Wp.label | ((first | refine Wp.sreg (fun K hK => ?_) | refine Wp.reg (fun K hK => ?_) | refine Wp.sdrw aL (fun K hK => ?_) | refine Wp.drw aL (fun K hK => ?_) | refine Wp.condG (fun K hK hF => ?_)); (repeat (revert hK; intro hK; simp (maxSteps := 2000000) (disch := omega) only [iK, TY, cF, fB, gR, SV.ofD, eE, fM, gK, gL, bT, gM, fP, fN, gN, fK, gI, gH, gJ, CV.exact, CV.lstOf, CV.lenOf, CV.one, D.one, Value.oneCell', CV.toD0, gZ, oWn, hZ, gB, rD0, iB, gE, hJ, reduceCtorEq, reduceIte, Nat.reduceBEq, Nat.reduceEqDiff, Nat.reduceAdd, Nat.reduceMul, Nat.reduceSub, Nat.reduceLT, Nat.reduceLeDiff, Nat.reduceBNe, Int.reduceLE, Int.reduceLT, Int.reduceBEq, Int.reduceBNe, Int.reduceEq, Int.reduceNeg, Int.reduceAdd, Int.reduceSub, Int.reduceToNat, forall_const, hge, SideD.dv]; (first | (refine hK _ ?_; clear hK K) | (refine ⟨by kernel_rfl, hK _ ?_⟩; clear hK K) | (refine hK ?_; clear hK hF K) | (refine hF ?_; clear hK hF K) | refine iE (by assumption) ?_ | refine bca (by assumption) ?_))); fail_if_success (revert hK; intro hK)) | apply Wp.seq))
  (first | refine Wp.sto 28 (vb (pC x)) ?_ ?_ | refine Wp.rtoS 28 (vb (pC x)) ?_ ?_ | (refine Wp.seq ?_; first | refine Wp.sto 28 (vb (pC x)) ?_ ?_ | refine Wp.rtoS 28 (vb (pC x)) ?_ ?_))
  ·unfold pC; ((rcases Bool.eq_false_or_eq_true (vA x.l) with hL1 | hL1) <;> (rcases Bool.eq_false_or_eq_true (decide (30 < (x.l.length : Int))) with hL2 | hL2) <;> ((simp (maxSteps := 2000000) (disch := omega) only [iK, TY, cF, fB, gR, SV.ofD, eE, fM, gK, gL, bT, gM, fP, fN, gN, fK, gI, gH, gJ, CV.exact, CV.lstOf, CV.lenOf, CV.one, D.one, Value.oneCell', CV.toD0, gZ, oWn, hZ, gB, rD0, iB, gE, hJ, reduceCtorEq, reduceIte, Nat.reduceBEq, Nat.reduceEqDiff, Nat.reduceAdd, Nat.reduceMul, Nat.reduceSub, Nat.reduceLT, Nat.reduceLeDiff, Nat.reduceBNe, Int.reduceLE, Int.reduceLT, Int.reduceBEq, Int.reduceBNe, Int.reduceEq, Int.reduceNeg, Int.reduceAdd, Int.reduceSub, Int.reduceToNat, forall_const, hL1, hL2, hge, SideD.dv]; (repeat (refine iE (by assumption) ?_; simp (maxSteps := 2000000) (disch := omega) only [iK, TY, cF, fB, gR, SV.ofD, eE, fM, gK, gL, bT, gM, fP, fN, gN, fK, gI, gH, gJ, CV.exact, CV.lstOf, CV.lenOf, CV.one, D.one, Value.oneCell', CV.toD0, gZ, oWn, hZ, gB, rD0, iB, gE, hJ, reduceCtorEq, reduceIte, Nat.reduceBEq, Nat.reduceEqDiff, Nat.reduceAdd, Nat.reduceMul, Nat.reduceSub, Nat.reduceLT, Nat.reduceLeDiff, Nat.reduceBNe, Int.reduceLE, Int.reduceLT, Int.reduceBEq, Int.reduceBNe, Int.reduceEq, Int.reduceNeg, Int.reduceAdd, Int.reduceSub, Int.reduceToNat, forall_const, hL1, hL2, hge, SideD.dv]))); all_goals (exact (show bV _ _ = true by kernel_rfl))))
  cases hgx : pC x with
  | true =>
   have hr := hgt hgx
   (refine dD ?_)
   (refine rO (hr) ?_; try with_reducible exact tt)
  | false =>
   rw [hgx] at hsn
   (refine gO (hwk) ?_)
   refine ⟨k + 1, ⟨hkl, by omega, hsn⟩, by omega, aF.keep rfl rfl ?_⟩
   (refine bL ?_; try with_reducible exact tt)
 ·have hr : oQ l = decide (20 < (l.length : Int)) := by
   unfold oQ
   by_cases h20 : 20 < (l.length : Int)
   ·rw [decide_eq_true h20, Bool.true_or]
   ·have hke : k = l.length := by omega
    rw [hke, List.take_length] at hany
    rw [hany, Bool.or_false]
  (first | refine Wp.sto 11 (vb false) ?_ ?_ | refine Wp.rtoS 11 (vb false) ?_ ?_ | (refine Wp.seq ?_; first | refine Wp.sto 11 (vb false) ?_ ?_ | refine Wp.rtoS 11 (vb false) ?_ ?_))
  ·by_cases h1 : k < l.length
   ·have d1 : decide ((k : Int) < (l.length : Int)) = true := decide_eq_true (by omega)
    have d2 : decide ((k : Int) ≤ 20) = false := decide_eq_false (by omega)
    ((refine rO (ai d1 (d2)) ?_; try with_reducible exact tt); (repeat (refine iE (by assumption) ?_; (refine rO (ai d1 (d2)) ?_))))
    all_goals (exact (show bV _ _ = true by kernel_rfl))
   ·have d1 : decide ((k : Int) < (l.length : Int)) = false := decide_eq_false (by omega)
    ((refine rO (d1) ?_; try with_reducible exact tt); (repeat (refine iE (by assumption) ?_; (refine rO (d1) ?_))))
    all_goals (exact (show bV _ _ = true by kernel_rfl))
  (refine dD ?_)
  (refine rO (hr) ?_; try with_reducible exact tt)
def kQ (l : List EntD) (s : List SideD) : Bool := decide (200 < (l.length : Int)) || (vA l || oQ s)
theorem aGb (l : List EntD) (s : List SideD) : bR Tryz.prog 19 [.lst 18 (l.map EntD.dv), .lst 2 (s.map SideD.dv)] (iF (kQ l s)) := by
 have c1 := aGa l
 have c2 := aA5 s
 (refine bR.of_body Tryz.func19 rfl rfl Tryz.ntmps19 Tryz.results19 (by simp) ?_)
 (refine dD ?_)
 (first | refine Wp.sto 4 (vb (kQ l s)) ?_ ?_ | refine Wp.rtoS 4 (vb (kQ l s)) ?_ ?_ | (refine Wp.seq ?_; first | refine Wp.sto 4 (vb (kQ l s)) ?_ ?_ | refine Wp.rtoS 4 (vb (kQ l s)) ?_ ?_))
 ·unfold kQ; ((rcases Bool.eq_false_or_eq_true (decide (200 < (l.length : Int))) with hL1 | hL1) <;> (rcases Bool.eq_false_or_eq_true (vA l) with hL2 | hL2) <;> (rcases Bool.eq_false_or_eq_true (oQ s) with hL3 | hL3) <;> (((refine rO (ai hL1 (ai hL2 (hL3))) ?_; try with_reducible exact tt); (repeat (refine iE (by assumption) ?_; (refine rO (ai hL1 (ai hL2 (hL3))) ?_; try with_reducible exact tt)))); all_goals (exact (show bV _ _ = true by kernel_rfl))))
 (refine dD ?_)
 (refine bL ?_; try with_reducible exact tt)
theorem aIj {l : List EntD} {s : List SideD} (h : kQ l s = false) : l.length ≤ 200 ∧ (∀ e ∈ l, e.b.recs.length ≤ 40 ∧ e.prod.seen.length ≤ 40) ∧ s.length ≤ 20 ∧ ∀ x ∈ s, x.l.length ≤ 30 ∧ ∀ e ∈ x.l, e.b.recs.length ≤ 40 ∧ e.prod.seen.length ≤ 40 := by
 unfold kQ at h
 simp only [Bool.or_eq_false_iff, decide_eq_false_iff_not] at h
 obtain ⟨h1, h2, h3⟩ := h
 obtain ⟨g1, g2⟩ := aM8 h3
 refine ⟨by omega, fun e he => ?_, g1, g2⟩
 simp only [vA, Bool.or_eq_false_iff, decide_eq_false_iff_not] at h2
 exact aKc (List.any_eq_false.1 h2.2 e he)
set_option maxHeartbeats 16000000
def wkX : BatD := ⟨3, 0, 0, true, [⟨[97], []⟩]⟩
def wkY : BatD := ⟨3, 0, 1, true, [⟨[97], []⟩]⟩
def aL3 : List EntD := [⟨3, wkX, false, 0, 0, nQ, fW⟩]
def aL5 : List SideD := [⟨3, [aNs wkX, aNs wkY]⟩]
def aL4 : List EntD := [⟨3, wkX, false, 0, 0, nQ, fW⟩, ⟨3, wkY, true, 2, 0, nQ, fW⟩]
def wkP14a : PartD := ⟨0, 0, [], [⟨3, 0, [wkX, wkY]⟩], [⟨3, 0, 2, [⟨0, 1, -1⟩, ⟨1, 1, -1⟩]⟩]⟩
def wkP14b : PartD := ⟨0, 2, [⟨0, 3, 0, [97], []⟩, ⟨1, 3, 1, [97], []⟩], [], [⟨3, 0, 2, []⟩]⟩
theorem aUp : xZ aL3 aL5 = some wkP14a := by decide +kernel
theorem aUq : xZ aL4 [] = some wkP14b := by decide +kernel
theorem aHn : bR Tryz.prog 21 [] (iF true) := by
 have s1 : ∀ e ∈ aL3, SmallEn e := by intro e he; simp [aL3] at he; subst he; exact ⟨by decide, by decide, by decide⟩
 have s2 : ∀ x ∈ aL5, ∀ y ∈ x.l, SmallEn y := by
  intro x hx y hy
  simp [aL5] at hx
  subst hx
  simp at hy
  rcases hy with rfl | rfl <;> exact ⟨by decide, by decide, by decide⟩
 have s3 : ∀ e ∈ aL4, SmallEn e := by intro e he; simp [aL4] at he; rcases he with rfl | rfl <;> exact ⟨by decide, by decide, by decide⟩
 have c1 := pO aL3 aL5 (by decide) s1 (by decide) s2
 have c2 := pO aL4 [] (by decide) s3 (by decide) (fun x hx => by cases hx)
 unfold a14 e14 at c1 c2
 rw [aUp] at c1
 rw [aUq] at c2
 have c1 := c1.args (.cons (sX.lst (.cons (tL ⟨3, wkX, false, 0, 0, nQ, fW⟩ _ _ (.refl _) (.nil 3)) .nil)) (.cons (sX.lst (.cons (.cons (.refl _) (.cons (sX.lst (.cons (tL (aNs wkX) _ _ (.refl _) (.nil 3)) (.cons (tL (aNs wkY) _ _ (.refl _) (.nil 3)) .nil))) .nil)) .nil)) .nil))
 have c2 := c2.args (.cons (sX.lst (.cons (tL ⟨3, wkX, false, 0, 0, nQ, fW⟩ _ _ (.refl _) (.nil 3)) (.cons (tL ⟨3, wkY, true, 2, 0, nQ, fW⟩ _ _ (.refl _) (.nil 3)) .nil))) (.cons (.nil 2) .nil))
 simp only [PartD.dv, wkP14a, wkP14b, wkX, wkY, aNs, RowD.dv, OpenD.dv, BatD.dv, ProdD.dv, SeenD.dv, RecD.dv, List.map_cons, List.map_nil, nQ, fW, Option.isSome_some, if_true, Option.getD_some] at c1 c2
 (refine bR.of_body Tryz.func21 rfl rfl Tryz.ntmps21 Tryz.results21 (by simp) ?_)
 (refine dD ?_)
 (refine bL ?_; try with_reducible exact tt)
end Go.Proofs.YtpklhnpchhaccaaGreatDoor
