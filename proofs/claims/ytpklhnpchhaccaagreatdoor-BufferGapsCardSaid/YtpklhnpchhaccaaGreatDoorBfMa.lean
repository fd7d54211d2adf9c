/- The abstract machine (BfB, BfC). -/
import Derived.Test.YtpklhnpchhaccaaGreatDoorBfA
import Derived.Test.YtpklhnpchhaccaaGreatDoorMpX
import Derived.Test.YtpklhnpchhaccaaGreatDoorRhMb
namespace Go.Proofs.YtpklhnpchhaccaaGreatDoor
open Go Go.RowKit
set_option maxHeartbeats 8000000
set_option maxRecDepth 100000
set_option linter.unusedVariables false
set_option linter.unusedSimpArgs false
/-- A part, what waits, and how often its rows and what waits of each producer were written; which of these the map holds. -/
structure BufS where
 p : PartD
 w : Wts
 vr : Nat
 vt : Nat → Nat
 vc : Nat → Nat
def pI (vt : Nat → Nat) (w : Wts) : List CV := w.map fun x => .apt (30 + x.1.toNat) 5 (x.2.map BatD.dv) (vt x.1.toNat)
def oA (w : Wts) : List Int := w.map (·.1)
abbrev bfK : List Nat := [0, 8, 9, 10, 31, 32, 33, 34, 35, 36, 37, 38]
abbrev fZ (s : BufS) : List (Nat × HE) :=
  [(0, .cells [.d (int s.p.start), .d (int s.p.fin), .apt 9 5 (s.p.rows.map RowD.dv) s.vr, .app 10 3 (s.p.opens.map OpenD.dv), .d (.lst 4 (s.p.prods.map ProdD.dv)), .mp 8]),
   (8, .imap (oA s.w) (pI s.vc s.w)), (9, .rot 47 5 s.vr), (10, .row 95 3 s.p.opens.length),
   (31, .rot 62 5 (s.vt 1)), (32, .rot 62 5 (s.vt 2)), (33, .rot 62 5 (s.vt 3)), (34, .rot 62 5 (s.vt 4)),
   (35, .rot 62 5 (s.vt 5)), (36, .rot 62 5 (s.vt 6)), (37, .rot 62 5 (s.vt 7)), (38, .rot 62 5 (s.vt 8))]
def fO (w : Wts) : Prop := ∀ x ∈ w, 1 ≤ x.1 ∧ x.1 ≤ 8
theorem pW (ks : List Int) (cs : List CV) : HE.ids (.imap ks cs) = cs.flatMap CV.ids := rfl
theorem qY (vt : Nat → Nat) : ∀ (w : Wts), fO w → (((pI vt w).flatMap CV.ids).all fun i => bfK.contains i) = true
 | [], _ => rfl
 | x :: w, h => by
  have h1 := h x (List.mem_cons_self ..)
  have ih := qY vt w (fun y hy => h y (List.mem_cons_of_mem _ hy))
  unfold pI at ih ⊢
  rw [List.map_cons, List.flatMap_cons, List.all_append, ih, Bool.and_true]
  obtain ⟨q, hq⟩ : ∃ q, q = x.1.toNat := ⟨_, rfl⟩
  rw [← hq]
  have h2 : 1 ≤ q ∧ q ≤ 8 := by omega
  show (List.all [30 + q] fun i => bfK.contains i) = true
  simp only [List.all_cons, List.all_nil, Bool.and_true, List.contains_cons, Bool.or_eq_true, beq_iff_eq]
  omega
theorem aJ2 (s : BufS) (h : fO s.w) : okB bfK (fZ s) = true := by
 have h2 := qY s.vc _ h
 unfold okB
 simp only [fZ, List.all_cons, List.all_nil, pW]
 rw [h2]
 rfl
theorem jP {args : List SV} {r : SV} {s t : BufS} (ha : (args.all fun a => nX a.ids bfK) = true) (hr : nX r.ids bfK = true) (h1 : fO s.w) (h2 : fO t.w) : okG args r (fZ s) (fZ t) = true := by
 have e1 : (fZ s).map (·.1) = bfK := rfl
 have e2 : (fZ t).map (·.1) = bfK := rfl
 unfold okG
 rw [e1, e2, aJ2 s h1, aJ2 t h2, ha, hr]; rfl
abbrev gY (m : List UInt8) : SV := .c (.d (sD (str m)))
theorem aJt (l : List ProdD) (b : BatD) (h : (aI l b (-1)).2 ≠ 0) : aO1 (aI l b (-1)).2 := by
 unfold aI at h ⊢
 rw [if_neg (by decide)] at h ⊢
 unfold aO1
 split at h
 ·rename_i h1
  rw [if_pos h1]
  dsimp only
  unfold aK at h1 ⊢
  split at h1
  ·rename_i h2; rw [if_pos h2]; exact .inl rfl
  ·rename_i h2
   rw [if_neg h2]
   unfold mN at h1 ⊢
   split at h1
   ·rename_i h3; rw [if_pos h3]; exact .inr (.inl rfl)
   ·rename_i h3
    rw [if_neg h3]
    unfold yO at h1 ⊢
    split at h1
    ·exact absurd rfl h1
    ·split at h1
     ·rename_i h4; simp only [h4, if_true]; exact .inr (.inr (.inl trivial))
     ·exact absurd rfl h1
 ·rename_i h1
  rw [if_neg h1]
  split at h
  ·rename_i h2; rw [if_pos h2]; exact .inr (.inr (.inl rfl))
  ·exact absurd rfl h
def aEo (s : BufS) (b : BatD) : BufS := { s with p := { s.p with prods := (aI s.p.prods b (-1)).1 } }
theorem yG (s : BufS) (b : BatD) (hw : fO s.w) (hs : SmallL s.p.prods) (hb : b.recs.length ≤ 100000) (h : (aI s.p.prods b (-1)).2 = 0) :
  FunG Tryz.prog 163 [.c (.own 0 0), aLk b] bfK (bO (fZ s)) kD bfK (bO (fZ (aEo s b))) := by
 have c1 := sT s.p.prods b (-1) hs hb
 rw [h] at c1
 unfold aEo
 generalize (aI s.p.prods b (-1)).1 = np at *
 simp only [BatD.dv] at c1
 refine FunG.of_bodyH rfl rfl Tryz.func163 rfl rfl Tryz.ntmps163 Tryz.results163 (Nat.le_of_ble_eq_true rfl) (jP rfl rfl hw hw) ?_
 (refine gO (ai @aC (ai @BatD.dv.eq_1 (ai @List.map_cons.{0,0} (@List.map_nil.{0,0})))) ?_)
 refine aT.ret ?_
 (refine rO (ai @aC (ai @aO.eq_1 (@aO.eq_2))) ?_; try with_reducible exact tt)
def aHj (n : Int) : List UInt8 := [97, 32, 98, 97, 116, 99, 104, 32, 116, 104, 97, 116, 32, 105, 115, 32, 114, 101, 102, 117, 115, 101, 100, 32, 119, 105, 116, 104, 32] ++ aOb n
theorem yF (s : BufS) (b : BatD) (hw : fO s.w) (hs : SmallL s.p.prods) (hb : b.recs.length ≤ 100000) (h : (aI s.p.prods b (-1)).2 ≠ 0) :
  FunG Tryz.prog 163 [.c (.own 0 0), aLk b] bfK (bO (fZ s)) (gY (aHj (aI s.p.prods b (-1)).2)) bfK (bO (fZ s)) := by
 have c1 := sT s.p.prods b (-1) hs hb
 obtain ⟨c2, hl⟩ := aIg (aJt _ _ h)
 unfold aHj
 have hz : ((aI s.p.prods b (-1)).2 != 0) = true := by simpa using h
 generalize (aI s.p.prods b (-1)).1 = np at *
 generalize (aI s.p.prods b (-1)).2 = n at *
 generalize aOb n = t at *
 have hA : ∀ (P : Program) (ty : TypeId) (x y : Operand), dY P .add ty x y (vs [97, 32, 98, 97, 116, 99, 104, 32, 116, 104, 97, 116, 32, 105, 115, 32, 114, 101, 102, 117, 115, 101, 100, 32, 119, 105, 116, 104, 32]) (vs t) = some (Res.pure (vs ([97, 32, 98, 97, 116, 99, 104, 32, 116, 104, 97, 116, 32, 105, 115, 32, 114, 101, 102, 117, 115, 101, 100, 32, 119, 105, 116, 104, 32] ++ t))) := fun P ty x y => aHa (by simp; omega)
 have c3 := cI ([97, 32, 98, 97, 116, 99, 104, 32, 116, 104, 97, 116, 32, 105, 115, 32, 114, 101, 102, 117, 115, 101, 100, 32, 119, 105, 116, 104, 32] ++ t)
 simp only [BatD.dv] at c1
 refine FunG.of_bodyH rfl rfl Tryz.func163 rfl rfl Tryz.ntmps163 Tryz.results163 (Nat.le_of_ble_eq_true rfl) (jP rfl rfl hw hw) ?_
 (refine gO (ai @aC (ai @BatD.dv.eq_1 (ai hz (ai hA (ai @List.map_cons.{0,0} (@List.map_nil.{0,0})))))) ?_)
 refine aT.ret ?_
 (refine rO (ai @aC (ai @aO.eq_1 (@aO.eq_2))) ?_; try with_reducible exact tt)
set_option maxHeartbeats 16000000
theorem iG : Tryz.prog.underlying 114 = some (.map 3 57) := Tryz.underlying114
theorem iY : Tryz.prog.underlying 3 = some (.int .i64) := Tryz.underlying3
theorem xQ : aP Tryz.prog (zeroValue 57) = some (.slice none 0 0) := by kernel_rfl
theorem vH {α β : Type} (f : α → β) : ∀ (l : List α) (i : Nat), (l.eraseIdx i).map f = (l.map f).eraseIdx i
 | [], _ => rfl
 | _ :: _, 0 => rfl
 | x :: l, i + 1 => by simp only [List.eraseIdx_cons_succ, List.map_cons]; rw [vH f l i]
theorem qQ {w : Wts} {pid : Int} (h : lS w pid = true) : (oA w)[wI w pid]? = some pid := by
 have hlt : wI w pid < w.length := of_decide_eq_true h
 unfold oA
 rw [List.getElem?_map, List.getElem?_eq_getElem hlt, Option.map_some, aL1 hlt]
theorem pB {w : Wts} {pid : Int} {j : Nat} (hj : j < wI w pid) : (oA w)[j]? ≠ some pid := by
 have hjl : j < w.length := Nat.lt_of_lt_of_le hj (aQl w pid)
 unfold oA
 rw [List.getElem?_map, List.getElem?_eq_getElem hjl, Option.map_some]
 intro h
 exact aTg hj hjl (Option.some.inj h)
theorem jT {w : Wts} {pid : Int} (h : lS w pid = false) : pid ∉ oA w := by
 have hi := uO h
 intro hm
 obtain ⟨j, hj, he⟩ := List.getElem_of_mem hm
 have hjl : j < w.length := by simpa [oA] using hj
 exact pB (w := w) (pid := pid) (j := j) (by omega) (by rw [List.getElem?_eq_getElem hj, he])
def cH (w : Wts) (pid : Int) : Wts := if lS w pid then w.eraseIdx (wI w pid) else w
theorem lB {w : Wts} (h : fO w) (pid : Int) : fO (cH w pid) := by
 unfold cH
 split
 ·exact fun x hx => h x ((List.eraseIdx_sublist _ _).mem hx)
 ·exact h
theorem aAq (w : Wts) (pid : Int) (h : lS w pid = true) : (oA w).eraseIdx (wI w pid) = oA (cH w pid) := by
 unfold cH oA; rw [if_pos h, vH]
theorem aAp (vt : Nat → Nat) (w : Wts) (pid : Int) (h : lS w pid = true) : (pI vt w).eraseIdx (wI w pid) = pI vt (cH w pid) := by
 unfold cH pI; rw [if_pos h, vH]
def yN (s : BufS) (e : EntD) : BufS := { s with p := wO s.p e, w := cH s.w e.b.pid }
theorem dW {σ : St} {m : Operand} {id : Nat} {ks : List Int} {cs : List CV} (h : aH σ.env m = .c (.mp id)) (h2 : σ.H id = some (.imap ks cs)) : fS σ m id ks cs := ⟨h, h2⟩
abbrev aDu : List UInt8 := [97, 32, 100, 114, 111, 112, 32, 116, 104, 97, 116, 32, 103, 111, 101, 115, 32, 98, 97, 99, 107]
theorem aRd (s : BufS) (e : EntD) (hw : fO s.w) (hqs : SmallL s.p.prods) :
  FunG Tryz.prog 160 [.c (.own 0 0), jI e] bfK (bO (fZ s)) (if iW s.p e then gY aDu else kD) bfK (bO (fZ (if iW s.p e then s else yN s e))) := by
 have c1 := yU s.p.prods e.b.pid hqs
 have c2 := (aEg s.p.prods ⟨e.b.pid, e.b.epoch, e.next, []⟩ hqs (by simp)).args (xs := [.lst 4 (s.p.prods.map ProdD.dv), .agg [int e.b.pid, int e.b.epoch, int e.next, zR]]) (.cons (.refl _) (.cons (.agg (.cons (.refl _) (.cons (.refl _) (.cons (.refl _) (.cons (.nil 3) .nil))))) .nil))
 have c3 := cI aDu
 obtain ⟨B, hB⟩ : ∃ B, B = iW s.p e := ⟨_, rfl⟩
 rw [← hB]
 unfold iW at hB
 unfold yN wO
 generalize hq : (bH s.p.prods e.b.pid).1 = q at *
 generalize (bH s.p.prods e.b.pid).2 = is at *
 generalize dU s.p.prods ⟨e.b.pid, e.b.epoch, e.next, []⟩ = np at *
 simp only [ProdD.dv] at c1
 have hwa := lB hw e.b.pid
 refine FunG.of_bodyH rfl rfl Tryz.func160 rfl rfl Tryz.ntmps160 Tryz.results160 (Nat.le_of_ble_eq_true rfl) (jP rfl (by cases B <;> rfl) hw (by cases B; exact hwa; exact hw)) ?_
 (refine gO (ai @aC (ai @EntD.dv.eq_1 (ai @List.map_cons.{0,0} (@List.map_nil.{0,0})))) ?_)
 (first | refine Wp.sto 42 (vb B) ?_ ?_ | refine Wp.rtoS 42 (vb B) ?_ ?_ | (refine Wp.seq ?_; first | refine Wp.sto 42 (vb B) ?_ ?_ | refine Wp.rtoS 42 (vb B) ?_ ?_))
 ·rw [hB]
  cases is <;> cases q1 : decide (e.b.epoch < q.epoch) <;> cases q2 : (e.b.epoch == q.epoch) <;> cases q3 : decide (e.next < q.next) <;> (((refine rO (ai @EntD.dv.eq_1 (ai q1 (ai q2 (q3)))) ?_; try with_reducible exact tt); (repeat (refine iE (by assumption) ?_; (refine rO (ai @EntD.dv.eq_1 (ai q1 (ai q2 (q3)))) ?_)))); all_goals (exact (show bV _ _ = true by kernel_rfl)))
 cases B with
 | true =>
  (refine gO (@aC) ?_)
  refine aT.ret ?_
  (refine rO (ai @aC (ai @aO.eq_1 (ai @aO.eq_2 (@if_true.{1})))) ?_; try with_reducible exact tt)
 | false =>
 rw [if_neg Bool.false_ne_true, if_neg Bool.false_ne_true]
 (refine gO (ai @aC (ai @EntD.dv.eq_1 (ai @List.map_cons.{0,0} (@List.map_nil.{0,0})))) ?_)
 (first | refine Wp.sregM aL ?_ | refine Wp.regM aL ?_ | (refine Wp.seq ?_; first | refine Wp.sregM aL ?_ | refine Wp.regM aL ?_))
 (refine cN.at 7 (fun K hK => ?_); (refine rO (ai @aC (ai @EntD.dv.eq_1 (ai @List.map_cons.{0,0} (@List.map_nil.{0,0})))) ?_); refine hK _ _ ?_; clear hK K)
 cases hk : lS s.w e.b.pid with
 | true =>
  refine cN.imapDel rfl 8 (oA s.w) (pI s.vc s.w) (wI s.w e.b.pid) e.b.pid iG iY (qQ hk) (fun j hj => pB hj) ⟨by kernel_rfl, by kernel_rfl, dW ?_ ?_, ?_, by kernel_rfl⟩ ?_
  ·(refine rO (@aC) ?_; try with_reducible exact tt)
  ·(refine rO (@aC) ?_; try with_reducible exact tt)
  ·simp (maxSteps := 2000000) (disch := omega) only [iK, TY, cF, fB, gR, SV.ofD, eE, fM, gK, gL, bT, gM, fP, fN, gN, fK, gI, gH, gJ, CV.exact, CV.lstOf, CV.lenOf, CV.one, D.one, Value.oneCell', CV.toD0, gZ, oWn, hZ, gB, rD0, iB, gE, hJ, reduceCtorEq, reduceIte, Nat.reduceBEq, Nat.reduceEqDiff, Nat.reduceAdd, Nat.reduceMul, Nat.reduceSub, Nat.reduceLT, Nat.reduceLeDiff, Nat.reduceBNe, Int.reduceLE, Int.reduceLT, Int.reduceBEq, Int.reduceBNe, Int.reduceEq, Int.reduceNeg, Int.reduceAdd, Int.reduceSub, Int.reduceToNat, forall_const, gF, sV, aC, EntD.dv, List.map_cons, List.map_nil]
  rw [aAq _ _ hk, aAp _ _ _ hk]
  (refine cN.done (fun K hK => ?_); (refine rO (ai @aC (ai @EntD.dv.eq_1 (ai @List.map_cons.{0,0} (@List.map_nil.{0,0})))) ?_); refine hK _ _ ?_; clear hK K; refine ⟨by kernel_rfl, ?_⟩)
  (refine gO (@aC) ?_)
  refine aT.ret ?_
  (refine rO (ai @aC (ai @aO.eq_1 (@aO.eq_2))) ?_; try with_reducible exact tt)
 | false =>
  refine cN.imapDelNo rfl 8 (oA s.w) (pI s.vc s.w) e.b.pid iG iY (jT hk) ⟨by kernel_rfl, by kernel_rfl, dW ?_ ?_, ?_, by kernel_rfl⟩ ?_
  ·(refine rO (@aC) ?_; try with_reducible exact tt)
  ·(refine rO (@aC) ?_; try with_reducible exact tt)
  ·simp (maxSteps := 2000000) (disch := omega) only [iK, TY, cF, fB, gR, SV.ofD, eE, fM, gK, gL, bT, gM, fP, fN, gN, fK, gI, gH, gJ, CV.exact, CV.lstOf, CV.lenOf, CV.one, D.one, Value.oneCell', CV.toD0, gZ, oWn, hZ, gB, rD0, iB, gE, hJ, reduceCtorEq, reduceIte, Nat.reduceBEq, Nat.reduceEqDiff, Nat.reduceAdd, Nat.reduceMul, Nat.reduceSub, Nat.reduceLT, Nat.reduceLeDiff, Nat.reduceBNe, Int.reduceLE, Int.reduceLT, Int.reduceBEq, Int.reduceBNe, Int.reduceEq, Int.reduceNeg, Int.reduceAdd, Int.reduceSub, Int.reduceToNat, forall_const, gF, sV, aC, EntD.dv, List.map_cons, List.map_nil]
  have e1 : cH s.w e.b.pid = s.w := by unfold cH; rw [hk]; rfl
  rw [e1]
  (refine cN.done (fun K hK => ?_); (refine rO (ai @aC (ai @EntD.dv.eq_1 (ai @List.map_cons.{0,0} (@List.map_nil.{0,0})))) ?_); refine hK _ _ ?_; clear hK K; refine ⟨by kernel_rfl, ?_⟩)
  (refine gO (@aC) ?_)
  refine aT.ret ?_
  (refine rO (ai @aC (ai @aO.eq_1 (@aO.eq_2))) ?_; try with_reducible exact tt)
end Go.Proofs.YtpklhnpchhaccaaGreatDoor
