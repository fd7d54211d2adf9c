/- The abstract machine (BfR, BfS). -/
import Derived.Test.YtpklhnpchhaccaaGreatDoorBfMc
import Derived.Test.YtpklhnpchhaccaaGreatDoorBfMe
namespace Go.Proofs.YtpklhnpchhaccaaGreatDoor
open Go Go.RowKit
set_option maxHeartbeats 8000000
set_option maxRecDepth 100000
set_option linter.unusedVariables false
set_option linter.unusedSimpArgs false
abbrev fX (l : List SideD) : D := .lst 2 (l.map SideD.dv)
def uI (l : List SideD) : List (List D) := (List.range l.length).map fun i => [.agg ((l[i]?).getD ⟨0, []⟩).dv, iF (aN l i)]
theorem kY (l : List SideD) : (uI l).length = l.length := by simp [uI]
theorem aH6 {l : List SideD} {i : Nat} {x : SideD} (h : l[i]? = some x) (hi : i < (uI l).length) : (uI l)[i] = [.agg x.dv, iF (aN l i)] := by
 simp [uI, h]
theorem aJd (l : List SideD) : bR Tryz.prog 103 [fX l] (.fn (.func 162) [.ptr [fX l] 0]) := by
 (refine bR.of_body Tryz.func103 rfl rfl Tryz.ntmps103 Tryz.results103 (by simp) ?_)
 (refine dD ?_)
 (refine Wp.weak (aF.freeze (id := 0) (by (refine bL ?_); rfl) (by (refine bL ?_); rfl)) ?_)
 (refine dD ?_)
 (refine bL ?_; try with_reducible exact tt)
theorem aJe (l : List SideD) (hn : l.length ≤ 1000000) : aHt Tryz.prog 162 [.ptr [fX l] 0] (uI l) := by
 (refine aHt.of_body Tryz.func162 rfl rfl Tryz.ntmps162 Tryz.results162 (by simp) (fun ks A cont q hL hY => ?_))
 (refine dD ?_)
 refine Wp.loop (fun y : Nat => ⟨lJ [(0, .c (.yld 999)), (1, .c (.d (.ptr [fX l] 0))), (5, .c (.d (fX l))), (6, vi .i64 l.length), (7, vi .i64 y)], vP (A y) [], 1000, 30, ⟨ks, [], false, some q⟩⟩) (fun y => y ≤ l.length ∧ ∀ j, j < y → cont j = true) (fun y => l.length - y) 0 ⟨Nat.zero_le _, fun j hj => by omega⟩ ?_ ?_
 ·refine aF.keepB (A := A) hL 0 rfl rfl (cG _) rfl ?_
  (refine bL ?_; try with_reducible exact tt)
 rintro y ⟨hy, hc⟩
 (refine dD ?_)
 refine Wp.cond (by (refine bL ?_); rfl) (fun h => ?_) (fun h => ?_)
 ·have hlt : y < l.length := by simpa using h
  have hg : l[y]? = some l[y] := List.getElem?_eq_getElem hlt
  have hYy := hY y (by rw [kY]; exact hlt) hc
  rw [aH6 hg] at hYy
  have hwk : IntKind.i64.wrap ((y : Int) + 1) = ((y + 1 : Nat) : Int) := by rw [aW (by omega)]; rfl
  generalize l[y] = x at *
  (repeat (first | apply Wp.skip | apply Wp.exit | apply Wp.ret | apply Wp.block | apply Wp.label | ((first | refine Wp.sreg (fun K hK => ?_) | refine Wp.reg (fun K hK => ?_) | refine Wp.sdrw aL (fun K hK => ?_) | refine Wp.drw aL (fun K hK => ?_) | refine Wp.condG (fun K hK hF => ?_)); (repeat (revert hK; intro hK; simp (maxSteps := 2000000) (disch := omega) only [iK, TY, cF, fB, gR, SV.ofD, eE, fM, gK, gL, bT, gM, fP, fN, gN, fK, gI, gH, gJ, CV.exact, CV.lstOf, CV.lenOf, CV.one, D.one, Value.oneCell', CV.toD0, gZ, oWn, hZ, gB, rD0, iB, gE, hJ, reduceCtorEq, reduceIte, Nat.reduceBEq, Nat.reduceEqDiff, Nat.reduceAdd, Nat.reduceMul, Nat.reduceSub, Nat.reduceLT, Nat.reduceLeDiff, Nat.reduceBNe, Int.reduceLE, Int.reduceLT, Int.reduceBEq, Int.reduceBNe, Int.reduceEq, Int.reduceNeg, Int.reduceAdd, Int.reduceSub, Int.reduceToNat, forall_const, hg, SideD.dv, List.map_cons, List.map_nil, hL.above, hU]; (first | (refine hK _ ?_; clear hK K) | (refine ⟨by kernel_rfl, hK _ ?_⟩; clear hK K) | (refine hK ?_; clear hK hF K) | (refine hF ?_; clear hK hF K) | refine iE (by assumption) ?_ | refine bca (by assumption) ?_))); fail_if_success (revert hK; intro hK)) | apply Wp.seq))
  rcases Nat.eq_zero_or_pos y with h0 | h0
  ·have e0 : ((y : Int) == 0) = true := by rw [h0]; rfl
   have s0 : aN l y = true := by rw [h0]; rfl
   rw [s0] at hYy
   (first | refine Wp.sregM aL ?_ | refine Wp.regM aL ?_ | (refine Wp.seq ?_; first | refine Wp.sregM aL ?_ | refine Wp.regM aL ?_))
   (refine cN.at 15 (fun K hK => ?_); simp (maxSteps := 2000000) (disch := omega) only [iK, TY, cF, fB, gR, SV.ofD, eE, fM, gK, gL, bT, gM, fP, fN, gN, fK, gI, gH, gJ, CV.exact, CV.lstOf, CV.lenOf, CV.one, D.one, Value.oneCell', CV.toD0, gZ, oWn, hZ, gB, rD0, iB, gE, hJ, reduceCtorEq, reduceIte, Nat.reduceBEq, Nat.reduceEqDiff, Nat.reduceAdd, Nat.reduceMul, Nat.reduceSub, Nat.reduceLT, Nat.reduceLeDiff, Nat.reduceBNe, Int.reduceLE, Int.reduceLT, Int.reduceBEq, Int.reduceBNe, Int.reduceEq, Int.reduceNeg, Int.reduceAdd, Int.reduceSub, Int.reduceToNat, forall_const, aC, hg, e0, SideD.dv, List.map_cons, List.map_nil, hL.above, hU]; refine hK _ _ ?_; clear hK K)
   (refine cN.yld hL rfl rfl (by kernel_rfl) rfl hYy (by ((repeat refine (fR (by omega)).2 ?_); first | exact cG _ | exact fQ rfl)) (Nat.le_of_ble_eq_true rfl) (by simp (maxSteps := 2000000) (disch := omega) only [iK, TY, cF, fB, gR, SV.ofD, eE, fM, gK, gL, bT, gM, fP, fN, gN, fK, gI, gH, gJ, CV.exact, CV.lstOf, CV.lenOf, CV.one, D.one, Value.oneCell', CV.toD0, gZ, oWn, hZ, gB, rD0, iB, gE, hJ, reduceCtorEq, reduceIte, Nat.reduceBEq, Nat.reduceEqDiff, Nat.reduceAdd, Nat.reduceMul, Nat.reduceSub, Nat.reduceLT, Nat.reduceLeDiff, Nat.reduceBNe, Int.reduceLE, Int.reduceLT, Int.reduceBEq, Int.reduceBNe, Int.reduceEq, Int.reduceNeg, Int.reduceAdd, Int.reduceSub, Int.reduceToNat, forall_const, aC, SideD.dv, List.map_cons, List.map_nil, hL.above, hU]) (by simp (maxSteps := 2000000) (disch := omega) only [iK, TY, cF, fB, gR, SV.ofD, eE, fM, gK, gL, bT, gM, fP, fN, gN, fK, gI, gH, gJ, CV.exact, CV.lstOf, CV.lenOf, CV.one, D.one, Value.oneCell', CV.toD0, gZ, oWn, hZ, gB, rD0, iB, gE, hJ, reduceCtorEq, reduceIte, Nat.reduceBEq, Nat.reduceEqDiff, Nat.reduceAdd, Nat.reduceMul, Nat.reduceSub, Nat.reduceLT, Nat.reduceLeDiff, Nat.reduceBNe, Int.reduceLE, Int.reduceLT, Int.reduceBEq, Int.reduceBNe, Int.reduceEq, Int.reduceNeg, Int.reduceAdd, Int.reduceSub, Int.reduceToNat, forall_const, SV.toD0', CV.toD0, aC, SideD.dv, List.map_cons, List.map_nil, hL.above, hU]) ?_)
   (refine cN.done (fun K hK => ?_); (refine rO (ai @aC (ai hL.rb (hL.above))) ?_); refine hK _ _ ?_; clear hK K; refine ⟨by kernel_rfl, ?_⟩)
   cases hcy : cont y with
   | false =>
    (refine gO (hcy) ?_)
    refine ⟨rfl, y + 1, ⟨by rw [kY]; omega, fun j hj => hc j (by omega), .inr ⟨by omega, hcy⟩⟩, ?_⟩
    (refine bL ?_)
    ((repeat refine (fR (by omega)).2 ?_); first | exact cG _ | exact fQ rfl)
   | true =>
    (refine gO (hcy) ?_)
    refine ⟨y + 1, ⟨hlt, fun j hj => ?_⟩, by omega, ?_⟩
    ·rcases Nat.lt_or_ge j y with h1 | h1
     ·exact hc j h1
     ·obtain rfl : j = y := by omega
      exact hcy
    refine aF.keepB (A := A) (L := [(0, .c (.yld 999)), (1, .c (.d (.ptr [fX l] 0))), (5, .c (.d (fX l))), (6, vi .i64 l.length), (7, vi .i64 (y + 1 : Nat))]) (M := []) (fx := ⟨ks, [], false, some q⟩) hL (y + 1) rfl rfl ?_ rfl ?_
    ·((repeat refine (fR (by omega)).2 ?_); first | exact cG _ | exact fQ rfl)
    (refine rO (hwk) ?_; try with_reducible exact tt)
  ·have e0 : ((y : Int) == 0) = false := by rw [beq_eq_false_iff_ne]; omega
   have hg1 : l[y - 1]? = some (l[y - 1]'(by omega)) := List.getElem?_eq_getElem (by omega)
   have hw1 : IntKind.i64.wrap ((y : Int) - 1) = ((y - 1 : Nat) : Int) := by rw [aW (by omega)]; omega
   have s0 : aN l y = decide ((l[y - 1]'(by omega)).pid < x.pid) := by
    obtain ⟨z, rfl⟩ : ∃ z, y = z + 1 := ⟨y - 1, by omega⟩
    simp only [aN, hg, hg1]
   rw [s0] at hYy
   generalize (l[y - 1]'(by omega)) = p at *
   (first | refine Wp.sregM aL ?_ | refine Wp.regM aL ?_ | (refine Wp.seq ?_; first | refine Wp.sregM aL ?_ | refine Wp.regM aL ?_))
   (refine cN.at 15 (fun K hK => ?_); simp (maxSteps := 2000000) (disch := omega) only [iK, TY, cF, fB, gR, SV.ofD, eE, fM, gK, gL, bT, gM, fP, fN, gN, fK, gI, gH, gJ, CV.exact, CV.lstOf, CV.lenOf, CV.one, D.one, Value.oneCell', CV.toD0, gZ, oWn, hZ, gB, rD0, iB, gE, hJ, reduceCtorEq, reduceIte, Nat.reduceBEq, Nat.reduceEqDiff, Nat.reduceAdd, Nat.reduceMul, Nat.reduceSub, Nat.reduceLT, Nat.reduceLeDiff, Nat.reduceBNe, Int.reduceLE, Int.reduceLT, Int.reduceBEq, Int.reduceBNe, Int.reduceEq, Int.reduceNeg, Int.reduceAdd, Int.reduceSub, Int.reduceToNat, forall_const, aC, hg, e0, hg1, hw1, SideD.dv, List.map_cons, List.map_nil, hL.above, hU]; refine hK _ _ ?_; clear hK K)
   (refine cN.yld hL rfl rfl (by kernel_rfl) rfl hYy (by ((repeat refine (fR (by omega)).2 ?_); first | exact cG _ | exact fQ rfl)) (Nat.le_of_ble_eq_true rfl) (by simp (maxSteps := 2000000) (disch := omega) only [iK, TY, cF, fB, gR, SV.ofD, eE, fM, gK, gL, bT, gM, fP, fN, gN, fK, gI, gH, gJ, CV.exact, CV.lstOf, CV.lenOf, CV.one, D.one, Value.oneCell', CV.toD0, gZ, oWn, hZ, gB, rD0, iB, gE, hJ, reduceCtorEq, reduceIte, Nat.reduceBEq, Nat.reduceEqDiff, Nat.reduceAdd, Nat.reduceMul, Nat.reduceSub, Nat.reduceLT, Nat.reduceLeDiff, Nat.reduceBNe, Int.reduceLE, Int.reduceLT, Int.reduceBEq, Int.reduceBNe, Int.reduceEq, Int.reduceNeg, Int.reduceAdd, Int.reduceSub, Int.reduceToNat, forall_const, aC, SideD.dv, List.map_cons, List.map_nil, hL.above, hU]) (by simp (maxSteps := 2000000) (disch := omega) only [iK, TY, cF, fB, gR, SV.ofD, eE, fM, gK, gL, bT, gM, fP, fN, gN, fK, gI, gH, gJ, CV.exact, CV.lstOf, CV.lenOf, CV.one, D.one, Value.oneCell', CV.toD0, gZ, oWn, hZ, gB, rD0, iB, gE, hJ, reduceCtorEq, reduceIte, Nat.reduceBEq, Nat.reduceEqDiff, Nat.reduceAdd, Nat.reduceMul, Nat.reduceSub, Nat.reduceLT, Nat.reduceLeDiff, Nat.reduceBNe, Int.reduceLE, Int.reduceLT, Int.reduceBEq, Int.reduceBNe, Int.reduceEq, Int.reduceNeg, Int.reduceAdd, Int.reduceSub, Int.reduceToNat, forall_const, SV.toD0', CV.toD0, aC, SideD.dv, List.map_cons, List.map_nil, hL.above, hU]) ?_)
   (refine cN.done (fun K hK => ?_); (refine rO (ai @aC (ai hL.rb (hL.above))) ?_); refine hK _ _ ?_; clear hK K; refine ⟨by kernel_rfl, ?_⟩)
   cases hcy : cont y with
   | false =>
    (refine gO (hcy) ?_)
    refine ⟨rfl, y + 1, ⟨by rw [kY]; omega, fun j hj => hc j (by omega), .inr ⟨by omega, hcy⟩⟩, ?_⟩
    (refine bL ?_)
    ((repeat refine (fR (by omega)).2 ?_); first | exact cG _ | exact fQ rfl)
   | true =>
    (refine gO (hcy) ?_)
    refine ⟨y + 1, ⟨hlt, fun j hj => ?_⟩, by omega, ?_⟩
    ·rcases Nat.lt_or_ge j y with h1 | h1
     ·exact hc j h1
     ·obtain rfl : j = y := by omega
      exact hcy
    refine aF.keepB (A := A) (L := [(0, .c (.yld 999)), (1, .c (.d (.ptr [fX l] 0))), (5, .c (.d (fX l))), (6, vi .i64 l.length), (7, vi .i64 (y + 1 : Nat))]) (M := []) (fx := ⟨ks, [], false, some q⟩) hL (y + 1) rfl rfl ?_ rfl ?_
    ·((repeat refine (fR (by omega)).2 ?_); first | exact cG _ | exact fQ rfl)
    (refine rO (hwk) ?_; try with_reducible exact tt)
 ·have hyl : y = l.length := by simp only [decide_eq_false_iff_not] at h; omega
  subst hyl
  (refine dD ?_)
  refine ⟨rfl, l.length, ⟨by rw [kY]; exact Nat.le_refl _, fun j hj => hc j (by omega), .inl ⟨kY l ▸ rfl, hc⟩⟩, ?_⟩
  (refine bL ?_)
  exact cG _
set_option maxHeartbeats 4000000
theorem aG1 {α : Type} (f : α → Bool) (l : List α) (h : ∀ x ∈ l, f x = false) (r : List α) : (l ++ r).findIdx f = l.length + r.findIdx f := by
 induction l with
 | nil => simp
 | cons x l ih =>
  have h1 := h x (List.mem_cons_self ..)
  rw [List.cons_append, List.findIdx_cons, h1, List.length_cons]
  show ((l ++ r).findIdx f + 1) = _
  rw [ih (fun y hy => h y (List.mem_cons_of_mem _ hy))]
  omega
theorem aCh {l : List OpenD} {pid : Int} (h : ∀ o ∈ l, o.pid < pid) (r : List OpenD) : aY (l ++ r) pid = l.length + aY r pid :=
 aG1 _ l (fun x hx => by have := h x hx; simp; omega) r
theorem aPf {p : PartD} {b : BatD} (h : ∀ o ∈ p.opens, o.pid < b.pid) : aH2 p b = some { p with opens := p.opens ++ [⟨b.pid, b.epoch, [b]⟩] } := by
 have hi : aY p.opens b.pid = p.opens.length := by
  have := aCh h []
  rw [List.append_nil] at this
  rw [this]; rfl
 have hb : bU p.opens b.pid = false := by
  unfold bU; rw [hi, List.getElem?_eq_none (Nat.le_refl _)]
 unfold aH2
 rw [hb, hi, List.take_length, List.drop_length]
theorem aPe {p : PartD} {b : BatD} {l : List OpenD} {bs : List BatD} (h : ∀ o ∈ l, o.pid < b.pid) (ho : p.opens = l ++ [⟨b.pid, b.epoch, bs⟩]) (hb8 : bs.length < 8) : aH2 p b = some { p with opens := l ++ [⟨b.pid, b.epoch, bs ++ [b]⟩] } := by
 have hi : aY p.opens b.pid = l.length := by
  rw [ho, aCh h]
  show l.length + List.findIdx _ _ = _
  rw [List.findIdx_cons]; simp
 have hg : p.opens[l.length]? = some ⟨b.pid, b.epoch, bs⟩ := by rw [ho, List.getElem?_append_right (Nat.le_refl _), Nat.sub_self]; rfl
 have hb : bU p.opens b.pid = true := by
  unfold bU; rw [hi, hg]; simp
 unfold aH2
 rw [hb, hi, hg]
 dsimp only
 rw [if_neg (by simp; omega), ho, List.take_left', List.drop_append, List.drop_of_length_le (by omega)]
 ·simp
 ·rfl
abbrev aPz (x : SideD) (k : Nat) : OpenD := ⟨x.pid, lN x, (x.l.take k).map (·.b)⟩
theorem aJl {x : SideD} (hx : 1 ≤ x.l.length) (y : EntD) : rI x y = eL x y := by
 obtain ⟨pid, l⟩ := x
 cases l with
 | nil => simp at hx
 | cons z l => rfl
theorem aEj {x : SideD} {y : EntD} (h : eL x y = false) : aS y = true ∧ y.kind = 0 ∧ y.b.txn = true ∧ y.b.pid = x.pid ∧ y.b.epoch = lN x := by
 unfold eL at h
 simp only [Bool.or_eq_false_iff, Bool.not_eq_false', bne_eq_false_iff_eq] at h
 exact ⟨h.1, h.2.1, h.2.2.1, h.2.2.2.1, h.2.2.2.2⟩
/-- A side file's entries, one by one: the document does what the buffer does. -/
theorem aQ0 {x : SideD} {p : PartD} (hx : 1 ≤ x.l.length ∧ x.l.length ≤ 8) (hp : ∀ o ∈ p.opens, o.pid < x.pid) : ∀ k, k ≤ x.l.length →
    (match bK x p.prods (x.l.take k) with
     | none => (dK x p (x.l.take k)).1 = false
     | some qs => dK x p (x.l.take k) = (true, { p with prods := qs, opens := if k = 0 then p.opens else p.opens ++ [aPz x k] }))
  | 0, _ => rfl
  | k + 1, hk => by
    have ih := aQ0 hx hp k (by omega)
    have hkl : k < x.l.length := by omega
    cases hq : bK x p.prods (x.l.take k) with
    | none =>
      rw [hq] at ih
      have h1 : bK x p.prods (x.l.take (k + 1)) = none := by
        rw [List.take_succ_eq_append_getElem hkl, rJ, hq]
      rw [h1]
      dsimp only at ih ⊢
      rw [List.take_succ_eq_append_getElem hkl, vW, if_neg (by rw [ih]; exact Bool.false_ne_true)]
      exact ih
    | some qs =>
      rw [hq] at ih
      dsimp only at ih
      have h1 := oV hkl hq
      have h2 := aJm (s := x) (p := p) hkl (by rw [ih])
      rw [ih] at h2
      dsimp only at h2
      have hO : aPz x (k + 1) = ⟨x.pid, lN x, (x.l.take k).map (·.b) ++ [x.l[k].b]⟩ := by
        show OpenD.mk _ _ _ = _
        rw [List.take_succ_eq_append_getElem hkl, List.map_append]; rfl
      rw [hO]
      generalize x.l[k] = y at *
      unfold lO at h2
      rw [aJl hx.1] at h2
      rw [h1, h2]
      cases hn : eL x y with
      | true => rw [if_pos rfl, if_pos rfl]
      | false =>
        rw [if_neg Bool.false_ne_true, if_neg Bool.false_ne_true]
        obtain ⟨_, _, _, e4, e5⟩ := aEj hn
        unfold aEp
        by_cases hz : (aI qs y.b (-1)).2 ≠ 0
        · rw [if_pos hz, if_pos hz]
        · rw [if_neg hz, if_neg hz]
          rw [if_neg (show ¬ k + 1 = 0 by omega)]
          by_cases h0 : k = 0
          · subst h0
            rw [if_pos rfl, aPf (by rw [e4]; exact hp), e4, e5]
            rfl
          · rw [if_neg h0, aPe (l := p.opens) (bs := (x.l.take k).map (·.b)) (by rw [e4]; exact hp) (by rw [e4, e5]) (by rw [List.length_map, List.length_take]; omega), e4, e5]
theorem aQ1 {x : SideD} {p : PartD} (hx : 1 ≤ x.l.length ∧ x.l.length ≤ 8) (hp : ∀ o ∈ p.opens, o.pid < x.pid) :
    (match bK x p.prods x.l with
     | none => (dK x p x.l).1 = false
     | some qs => dK x p x.l = (true, { p with prods := qs, opens := p.opens ++ [⟨x.pid, lN x, x.l.map (·.b)⟩] })) := by
  have h := aQ0 hx hp x.l.length (Nat.le_refl _)
  rw [List.take_length, if_neg (by omega)] at h
  have : aPz x x.l.length = ⟨x.pid, lN x, x.l.map (·.b)⟩ := by show OpenD.mk _ _ _ = _; rw [List.take_length]
  rw [this] at h
  exact h
/-- Producers behind side files: what both do alike. -/
def iQ (all : List SideD) : List ProdD → Nat → List SideD → Option (List ProdD)
 | ps, _, [] => some ps
 | ps, k, x :: l => if aN all k = false then none else if x.l.length = 0 ∨ 8 < x.l.length then none else match bK x ps x.l with
  | none => none
  | some qs => iQ all qs (k + 1) l
abbrev mkO (x : SideD) : OpenD := ⟨x.pid, lN x, x.l.map (·.b)⟩
/-- The open ones so far lie below what comes. -/
def aD1 (all : List SideD) (k : Nat) (opens : List OpenD) : Prop := opens = [] ∨ ∃ y, 0 < k ∧ all[k - 1]? = some y ∧ ∀ o ∈ opens, o.pid ≤ y.pid
theorem aF8 {all : List SideD} {k : Nat} {opens : List OpenD} {x : SideD} (h : aD1 all k opens) (hs : aN all k = true) (hx : all[k]? = some x) : ∀ o ∈ opens, o.pid < x.pid := by
 intro o ho
 rcases h with rfl | ⟨y, hk, hy, hle⟩
 ·cases ho
 ·obtain ⟨j, rfl⟩ : ∃ j, k = j + 1 := ⟨k - 1, by omega⟩
  rw [Nat.add_sub_cancel] at hy
  unfold aN at hs
  rw [hx, Nat.add_sub_cancel, hy] at hs
  have := of_decide_eq_true hs
  have := hle o ho
  omega
theorem yD {all : List SideD} {k : Nat} {opens : List OpenD} {x : SideD} (h : ∀ o ∈ opens, o.pid < x.pid) (hx : all[k]? = some x) : aD1 all (k + 1) (opens ++ [mkO x]) := by
 refine .inr ⟨x, by omega, by rw [Nat.add_sub_cancel]; exact hx, fun o ho => ?_⟩
 rcases List.mem_append.1 ho with h1 | h1
 ·have := h o h1; omega
 ·simp at h1; subst h1; exact Int.le_refl _
theorem aHf (all : List SideD) : ∀ (l : List SideD) (u : RefS) (k : Nat), all.drop k = l → aD1 all k u.p.opens →
  qM all u k l = (iQ all u.p.prods k l).map (fun qs => ⟨{ u.p with prods := qs, opens := u.p.opens ++ l.map mkO }, u.w, u.v⟩)
 | [], u, k, _, _ => by
  show some u = some _
  rw [List.map_nil, List.append_nil]
 | x :: l, u, k, hd, hB => by
  have hx : all[k]? = some x := by
   have := congrArg (fun l => l[0]?) hd
   simpa using this
  have hd2 : all.drop (k + 1) = l := by rw [← List.drop_drop, hd]; rfl
  show (if aN all k = false then none else if (nW u x).1 = false then none else qM all (nW u x).2 (k + 1) l) = Option.map _ (if aN all k = false then none else if x.l.length = 0 ∨ 8 < x.l.length then none else match bK x u.p.prods x.l with
   | none => none
   | some qs => iQ all qs (k + 1) l)
  by_cases h1 : aN all k = false
  ·rw [if_pos h1, if_pos h1]; rfl
  rw [if_neg h1, if_neg h1]
  by_cases h2 : x.l.length = 0 ∨ 8 < x.l.length
  ·have : (nW u x).1 = false := by unfold nW; rw [if_pos h2]
   rw [if_pos this, if_pos h2]; rfl
  rw [if_neg h2]
  have hlt := aF8 hB (by simpa using h1) hx
  have hr := aQ1 (x := x) (p := u.p) (by omega) hlt
  have hs : nW u x = ((dK x u.p x.l).1, ⟨(dK x u.p x.l).2, u.w, u.v⟩) := by unfold nW; rw [if_neg h2]
  rw [hs]
  cases hq : bK x u.p.prods x.l with
  | none =>
   rw [hq] at hr
   dsimp only at hr ⊢
   rw [if_pos hr]; rfl
  | some qs =>
   rw [hq] at hr
   dsimp only at hr ⊢
   rw [hr, if_neg (by simp)]
   rw [aHf all l _ (k + 1) hd2 (yD hlt hx)]
   dsimp only
   rw [List.append_assoc]
   rfl
def lE (l : List BatD) (x : SideD) : Bool := decide (l.length < x.l.length) && decide (l = (x.l.map (·.b)).take l.length)
theorem aKu (p : PartD) (w : Wts) (x : SideD) : eZ p w x = if x.l.length = 0 ∨ 8 < x.l.length then none else match bK x p.prods x.l with
  | none => none
  | some qs => if lE (cD w x.pid) x then some ({ p with prods := qs, opens := p.opens ++ [mkO x] }, cH w x.pid) else none := by
 unfold eZ lE
 by_cases h : x.l.length = 0 ∨ 8 < x.l.length
 ·rw [if_pos h, if_pos h]
 rw [if_neg h, if_neg h]
 cases bK x p.prods x.l with
 | none => rfl
 | some qs =>
  dsimp only
  by_cases h1 : x.l.length ≤ (cD w x.pid).length
  ·rw [if_pos h1, decide_eq_false (by omega)]; simp
  ·rw [if_neg h1, decide_eq_true (show (cD w x.pid).length < x.l.length by omega)]
   by_cases h2 : cD w x.pid = (x.l.map (·.b)).take (cD w x.pid).length
   ·rw [if_neg (fun h => h h2), Bool.true_and, if_pos (decide_eq_true h2)]
   ·rw [if_pos h2, Bool.true_and, decide_eq_false h2, if_neg Bool.false_ne_true]
def dG (all : List SideD) : PartD × Wts → Nat → List SideD → Option (PartD × Wts)
 | s, _, [] => some s
 | s, k, x :: l => if aN all k = false then none else match eZ s.1 s.2 x with
  | none => none
  | some t => dG all t (k + 1) l
theorem oX (all : List SideD) : ∀ (l : List SideD) (s : PartD × Wts) (j : Nat) (r : List SideD), dG all s j (l ++ r) = match dG all s j l with
  | none => none
  | some u => dG all u (j + l.length) r
 | [], s, j, r => rfl
 | x :: l, s, j, r => by
  have e1 : ∀ l, dG all s j (x :: l) = if aN all j = false then none else match eZ s.1 s.2 x with
   | none => none
   | some t => dG all t (j + 1) l := fun _ => rfl
  rw [List.cons_append, e1, e1]
  by_cases h1 : aN all j = false
  ·rw [if_pos h1, if_pos h1]
  rw [if_neg h1, if_neg h1]
  cases eZ s.1 s.2 x with
  | none => rfl
  | some t =>
   dsimp only
   rw [oX all l t (j + 1) r, List.length_cons, show j + (l.length + 1) = j + 1 + l.length by omega]
/-- What waits of a producer: a list, if it is there. -/
theorem aEs {w : Wts} (hn : (w.map (·.1)).Nodup) {y : Int × List BatD} (hy : y ∈ w) : cD w y.1 = y.2 := by
 have hk : lS w y.1 = true := by
  cases h : lS w y.1 with
  | true => rfl
  | false => exact absurd (List.mem_map.2 ⟨y, hy, rfl⟩) (jT h)
 have h1 := List.mem_of_getElem? (kK hk)
 have h2 : ∀ (w : Wts), (w.map (·.1)).Nodup → ∀ a ∈ w, ∀ b ∈ w, a.1 = b.1 → a = b := by
  intro w
  induction w with
  | nil => intro _ a ha; cases ha
  | cons c w ih =>
   intro hn a ha b hb e
   rw [List.map_cons, List.nodup_cons] at hn
   rcases List.mem_cons.1 ha with h1 | h1 <;> rcases List.mem_cons.1 hb with h2 | h2
   ·rw [h1, h2]
   ·exact absurd (List.mem_map.2 ⟨b, h2, by rw [← e, h1]⟩) hn.1
   ·exact absurd (List.mem_map.2 ⟨a, h1, by rw [e, h2]⟩) hn.1
   ·exact ih hn.2 a h1 b h2 e
 have := h2 w hn _ h1 _ hy rfl
 exact congrArg Prod.snd this
theorem xS {w : Wts} {pid : Int} (h : ∀ y ∈ w, y.1 ≠ pid) : cD w pid = [] := by
 refine pA ?_
 cases hk : lS w pid with
 | false => rfl
 | true => exact absurd rfl (h _ (List.mem_of_getElem? (kK hk)))
theorem sW {w : Wts} (hn : (w.map (·.1)).Nodup) {f : Int × List BatD → Bool} {pid : Int} (hf : ∀ y : Int × List BatD, y.1 = pid → f y = true) : cD (w.filter f) pid = cD w pid := by
 cases hk : lS w pid with
 | true =>
  have h1 := List.mem_of_getElem? (kK hk)
  exact aEs (List.Nodup.sublist (List.Sublist.map _ (List.filter_sublist)) hn) (y := (pid, cD w pid)) (List.mem_filter.2 ⟨h1, hf _ rfl⟩)
 | false =>
  rw [pA hk]
  exact xS (fun y hy e => jT hk (List.mem_map.2 ⟨y, (List.mem_filter.1 hy).1, e⟩))
theorem wG {w : Wts} (hn : (w.map (·.1)).Nodup) (pid : Int) : cH w pid = w.filter (fun y => y.1 != pid) := by
 unfold cH
 cases hk : lS w pid with
 | false =>
  rw [if_neg Bool.false_ne_true]
  exact (List.filter_eq_self.2 (fun y hy => by
   have : y.1 ≠ pid := fun e => jT hk (List.mem_map.2 ⟨y, hy, e⟩)
   simpa using this)).symm
 | true =>
  rw [if_pos rfl]
  have hg := kK hk
  generalize wI w pid = i at *
  generalize cD w pid = l at *
  induction w generalizing i with
  | nil => simp at hg
  | cons c w ih =>
   rw [List.map_cons, List.nodup_cons] at hn
   cases i with
   | zero =>
    simp at hg; subst hg
    rw [List.eraseIdx_zero, List.tail_cons, List.filter_cons_of_neg (by simp)]
    exact (List.filter_eq_self.2 (fun y hy => by
     have : y.1 ≠ pid := fun e => hn.1 (List.mem_map.2 ⟨y, hy, e⟩)
     simpa using this)).symm
   | succ i =>
    have hg : w[i]? = some (pid, l) := by simpa using hg
    have hc : c.1 ≠ pid := fun e => hn.1 (List.mem_map.2 ⟨_, List.mem_of_getElem? hg, e.symm⟩)
    rw [List.eraseIdx_cons_succ, List.filter_cons_of_pos (by simpa using hc)]
    congr 1
    refine ih hn.2 ?_ i hg
    cases h : lS w pid with
    | true => rfl
    | false => exact absurd (List.mem_map.2 ⟨_, List.mem_of_getElem? hg, rfl⟩) (jT h)
theorem qL (all : List SideD) : ∀ (l : List SideD) (ps rs : List ProdD) (k : Nat), all.drop k = l → iQ all ps k l = some rs → ∀ x, 0 < k → all[k - 1]? = some x → ∀ z ∈ l, x.pid < z.pid
| [], _, _, _, _, _, _, _, _, z, hz => by cases hz
| y :: l, ps, rs, k, hd, hs, x, hk, hx, z, hz => by
 have hy : all[k]? = some y := by
  have := congrArg (fun l => l[0]?) hd
  simpa using this
 have hd2 : all.drop (k + 1) = l := by rw [← List.drop_drop, hd]; rfl
 have hs : (if aN all k = false then none else if y.l.length = 0 ∨ 8 < y.l.length then none else match bK y ps y.l with
  | none => none
  | some qs => iQ all qs (k + 1) l) = some rs := hs
 split at hs
 ·cases hs
 rename_i h1
 split at hs
 ·cases hs
 split at hs
 ·cases hs
 have hlt : x.pid < y.pid := by
  obtain ⟨j, rfl⟩ : ∃ j, k = j + 1 := ⟨k - 1, by omega⟩
  rw [Nat.add_sub_cancel] at hx
  unfold aN at h1
  rw [hy, Nat.add_sub_cancel, hx] at h1
  have h1 : decide (x.pid < y.pid) = true := by simpa using h1
  exact of_decide_eq_true h1
 rcases List.mem_cons.1 hz with rfl | hz
 ·exact hlt
 ·have := qL all l _ rs (k + 1) hd2 hs y (by omega) (by rw [Nat.add_sub_cancel]; exact hy) z hz
  omega
theorem aHe (all : List SideD) : ∀ (l : List SideD) (p : PartD) (w : Wts) (k : Nat), all.drop k = l → (w.map (·.1)).Nodup → aD1 all k p.opens →
  dG all (p, w) k l = match iQ all p.prods k l with
   | none => none
   | some qs => if l.all (fun x => lE (cD w x.pid) x) then some ({ p with prods := qs, opens := p.opens ++ l.map mkO }, w.filter (fun y => l.all (fun x => x.pid != y.1))) else none
 | [], p, w, k, _, _, _ => by
  show some (p, w) = if true = true then some _ else none
  rw [if_pos rfl, List.map_nil, List.append_nil]
  congr 2
  exact (List.filter_eq_self.2 (fun _ _ => rfl)).symm
 | x :: l, p, w, k, hd, hn, hB => by
  have hx : all[k]? = some x := by
   have := congrArg (fun l => l[0]?) hd
   simpa using this
  have hd2 : all.drop (k + 1) = l := by rw [← List.drop_drop, hd]; rfl
  have e1 : dG all (p, w) k (x :: l) = if aN all k = false then none else match eZ p w x with
   | none => none
   | some t => dG all t (k + 1) l := rfl
  have e2 : iQ all p.prods k (x :: l) = if aN all k = false then none else if x.l.length = 0 ∨ 8 < x.l.length then none else match bK x p.prods x.l with
   | none => none
   | some qs => iQ all qs (k + 1) l := rfl
  rw [e1, e2, aKu]
  by_cases h1 : aN all k = false
  ·rw [if_pos h1, if_pos h1]
  rw [if_neg h1, if_neg h1]
  by_cases h2 : x.l.length = 0 ∨ 8 < x.l.length
  ·rw [if_pos h2, if_pos h2]
  rw [if_neg h2, if_neg h2]
  have hlt := aF8 hB (by simpa using h1) hx
  cases hq : bK x p.prods x.l with
  | none => rfl
  | some qs =>
   dsimp only
   by_cases hc : lE (cD w x.pid) x = true
   ·rw [if_pos hc]
    dsimp only
    rw [wG hn, aHe all l _ _ (k + 1) hd2 (List.Nodup.sublist (List.Sublist.map _ (List.filter_sublist)) hn) (yD hlt hx)]
    dsimp only
    cases hs : iQ all qs (k + 1) l with
    | none => rfl
    | some rs =>
     dsimp only
     have hpid : ∀ z ∈ l, z.pid ≠ x.pid := by
      intro z hz
      have := qL all l qs rs (k + 1) hd2 hs x (by omega) (by rw [Nat.add_sub_cancel]; exact hx) z hz
      omega
     have ha : (l.all fun z => lE (cD (w.filter fun y => y.1 != x.pid) z.pid) z) = (l.all fun z => lE (cD w z.pid) z) := by
      rw [Bool.eq_iff_iff, List.all_eq_true, List.all_eq_true]
      constructor
      ·intro h z hz
       have := h z hz
       rwa [sW hn (fun y hy => by have := hpid z hz; simp; omega)] at this
      ·intro h z hz
       have := h z hz
       rwa [sW hn (fun y hy => by have := hpid z hz; simp; omega)]
     rw [ha, List.all_cons, hc, Bool.true_and, List.filter_filter, List.map_cons, List.append_assoc]
     by_cases h9 : (l.all fun z => lE (cD w z.pid) z) = true
     ·rw [if_pos h9, if_pos h9]
      congr 2
      refine List.filter_congr (fun y hy => ?_)
      rw [List.all_cons, Bool.and_comm]
      congr 1
      rw [Bool.eq_iff_iff]; simp; exact ⟨fun h e => h e.symm, fun h e => h e.symm⟩
     ·rw [if_neg h9, if_neg h9]
   ·rw [if_neg hc]
    cases iQ all qs (k + 1) l with
    | none => rfl
    | some rs =>
     dsimp only
     rw [if_neg (by rw [List.all_cons]; simp [hc])]
/-- The document's word on what waits is the buffer's. -/
theorem aQm {p : PartD} {all : List SideD} {w : Wts} (hn : (w.map (·.1)).Nodup) (ho : p.opens = all.map mkO) (hr : (all.map (·.pid)).Pairwise (· < ·)) (hl : ∀ x ∈ all, 1 ≤ x.l.length) :
  w.all (aAr p) = ((all.all fun x => lE (cD w x.pid) x) && (w.filter (fun y => all.all (fun x => x.pid != y.1))).isEmpty) := by
 have hw : ∀ y : Int × List BatD, aAr p y = true ↔ ∃ x ∈ all, x.pid = y.1 ∧ lE y.2 x = true := by
  intro y
  have hfind : ∀ (l : List SideD), (l.map (·.pid)).Pairwise (· < ·) → ((bU (l.map mkO) y.1 && match (l.map mkO)[aY (l.map mkO) y.1]? with
    | some o => decide (y.2.length < o.bats.length) && decide (y.2 = o.bats.take y.2.length)
    | none => false) = true ↔ ∃ x ∈ l, x.pid = y.1 ∧ lE y.2 x = true) := by
   intro l hp
   induction l with
   | nil => simp [bU, aY]
   | cons z l ih =>
    rw [List.map_cons, List.pairwise_cons] at hp
    have ih := ih hp.2
    by_cases h1 : z.pid < y.1
    ·have hi : aY ((z :: l).map mkO) y.1 = aY (l.map mkO) y.1 + 1 := by
      unfold aY
      rw [List.map_cons, List.findIdx_cons, decide_eq_false (show ¬ y.1 ≤ (mkO z).pid by show ¬ y.1 ≤ z.pid; omega)]; rfl
     have hg : ((z :: l).map mkO)[aY (l.map mkO) y.1 + 1]? = (l.map mkO)[aY (l.map mkO) y.1]? := by rw [List.map_cons, List.getElem?_cons_succ]
     unfold bU at ih ⊢
     rw [hi, hg, ih]
     constructor
     ·rintro ⟨x, hx, h⟩; exact ⟨x, List.mem_cons_of_mem _ hx, h⟩
     ·rintro ⟨x, hx, h⟩
      rcases List.mem_cons.1 hx with rfl | hx
      ·omega
      ·exact ⟨x, hx, h⟩
    ·have hi : aY ((z :: l).map mkO) y.1 = 0 := by
      unfold aY
      rw [List.map_cons, List.findIdx_cons, decide_eq_true (show y.1 ≤ (mkO z).pid by show y.1 ≤ z.pid; omega)]; rfl
     unfold bU
     rw [hi, List.map_cons, List.getElem?_cons_zero]
     dsimp only
     constructor
     ·intro h
      rw [Bool.and_eq_true] at h
      refine ⟨z, List.mem_cons_self .., by simpa using h.1, ?_⟩
      unfold lE
      rw [List.length_map] at h
      exact h.2
     ·rintro ⟨x, hx, hxy, hc⟩
      have hxz : x = z := by
       rcases List.mem_cons.1 hx with rfl | hx
       ·rfl
       ·have := hp.1 x.pid (List.mem_map.2 ⟨x, hx, rfl⟩); omega
      subst hxz
      unfold lE at hc
      rw [List.length_map, hc, hxy]; simp
  have := hfind all hr
  unfold aAr
  rw [ho]
  exact this
 have huniq : ∀ a ∈ all, ∀ b ∈ all, a.pid = b.pid → a = b := by
  have : ∀ l : List SideD, (l.map (·.pid)).Pairwise (· < ·) → ∀ a ∈ l, ∀ b ∈ l, a.pid = b.pid → a = b := by
   intro l
   induction l with
   | nil => intro _ a ha; cases ha
   | cons c l ih =>
    intro hp a ha b hb e
    rw [List.map_cons, List.pairwise_cons] at hp
    rcases List.mem_cons.1 ha with h1 | h1 <;> rcases List.mem_cons.1 hb with h2 | h2
    ·rw [h1, h2]
    ·have := hp.1 b.pid (List.mem_map.2 ⟨b, h2, rfl⟩); rw [h1] at e; omega
    ·have := hp.1 a.pid (List.mem_map.2 ⟨a, h1, rfl⟩); rw [h2] at e; omega
    ·exact ih hp.2 a h1 b h2 e
  exact this all hr
 rw [Bool.eq_iff_iff, List.all_eq_true, Bool.and_eq_true, List.all_eq_true, List.isEmpty_iff, List.filter_eq_nil_iff]
 constructor
 ·intro h
  refine ⟨fun x hx => ?_, fun y hy h2 => ?_⟩
  ·cases hk : lS w x.pid with
   | false =>
    rw [pA hk]
    have := hl x hx
    unfold lE
    simp
    omega
   | true =>
    obtain ⟨z, hz, he, hc⟩ := (hw _).1 (h _ (List.mem_of_getElem? (kK hk)))
    rw [huniq z hz x hx he] at hc
    exact hc
  ·obtain ⟨x, hx, he, _⟩ := (hw y).1 (h y hy)
   have := List.all_eq_true.1 h2 x hx
   rw [he] at this
   simp at this
 ·rintro ⟨h1, h2⟩ y hy
  have h3 := h2 y hy
  simp only [List.all_eq_true, Classical.not_forall, bne_iff_ne, ne_eq, Decidable.not_not] at h3
  obtain ⟨x, hx, he⟩ := h3
  refine (hw y).2 ⟨x, hx, he, ?_⟩
  have := h1 x hx
  rw [he, aEs hn hy] at this
  exact this
theorem aAd (all : List SideD) : ∀ (l : List SideD) (ps rs : List ProdD) (k : Nat), iQ all ps k l = some rs → ∀ x ∈ l, 1 ≤ x.l.length ∧ x.l.length ≤ 8
 | [], _, _, _, _, x, hx => by cases hx
 | y :: l, ps, rs, k, hs, x, hx => by
  have hs : (if aN all k = false then none else if y.l.length = 0 ∨ 8 < y.l.length then none else match bK y ps y.l with
   | none => none
   | some qs => iQ all qs (k + 1) l) = some rs := hs
  split at hs
  ·cases hs
  split at hs
  ·cases hs
  split at hs
  ·cases hs
  rcases List.mem_cons.1 hx with rfl | hx
  ·omega
  ·exact aAd all l _ rs (k + 1) hs x hx
theorem aCp (all : List SideD) : ∀ (l : List SideD) (ps rs : List ProdD) (k : Nat), all.drop k = l → iQ all ps k l = some rs → (l.map (·.pid)).Pairwise (· < ·)
 | [], _, _, _, _, _ => .nil
 | y :: l, ps, rs, k, hd, hs => by
  have hy : all[k]? = some y := by
   have := congrArg (fun l => l[0]?) hd
   simpa using this
  have hd2 : all.drop (k + 1) = l := by rw [← List.drop_drop, hd]; rfl
  have hs : (if aN all k = false then none else if y.l.length = 0 ∨ 8 < y.l.length then none else match bK y ps y.l with
   | none => none
   | some qs => iQ all qs (k + 1) l) = some rs := hs
  split at hs
  ·cases hs
  split at hs
  ·cases hs
  split at hs
  ·cases hs
  rw [List.map_cons, List.pairwise_cons]
  refine ⟨fun a ha => ?_, aCp all l _ rs (k + 1) hd2 hs⟩
  obtain ⟨z, hz, rfl⟩ := List.mem_map.1 ha
  exact qL all l _ rs (k + 1) hd2 hs y (by omega) (by rw [Nat.add_sub_cancel]; exact hy) z hz
/-- The buffer's fold, in plain words. -/
def xZ (main : List EntD) (sides : List SideD) : Option PartD := match dJ ref0 main with
 | none => none
 | some s => match dG sides (s.p, s.w) 0 sides with
  | none => none
  | some t => if t.2.isEmpty then some t.1 else none
theorem aR2 (main : List EntD) (sides : List SideD) (h : ∀ s, dJ ref0 main = some s → (s.w.map (·.1)).Nodup ∧ s.p.opens = []) : xZ main sides = (sH main sides).map (·.p) := by
 unfold xZ sH
 cases hl : dJ ref0 main with
 | none => rfl
 | some s =>
  obtain ⟨hn, ho⟩ := h s hl
  dsimp only
  rw [aHe sides sides s.p s.w 0 rfl hn (.inl ho), aHf sides sides s 0 rfl (.inl ho)]
  cases hq : iQ sides s.p.prods 0 sides with
  | none => rfl
  | some qs =>
   dsimp only [Option.map_some]
   rw [aQm (p := { s.p with prods := qs, opens := s.p.opens ++ sides.map mkO }) (all := sides) hn (by rw [ho]; rfl) (aCp sides sides _ _ 0 rfl hq) (fun x hx => (aAd sides sides _ _ 0 hq x hx).1)]
   by_cases hc : (sides.all fun x => lE (cD s.w x.pid) x) = true
   ·rw [if_pos hc, hc, Bool.true_and]
    dsimp only
    split <;> rfl
   ·rw [if_neg hc]
    have : (sides.all fun x => lE (cD s.w x.pid) x) = false := by simpa using hc
    rw [this, Bool.false_and, if_neg Bool.false_ne_true]
    rfl
end Go.Proofs.YtpklhnpchhaccaaGreatDoor
