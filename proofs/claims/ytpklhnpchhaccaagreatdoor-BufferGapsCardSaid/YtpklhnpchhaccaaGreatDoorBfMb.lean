/- The abstract machine (BfD, BfE). -/
import Derived.Test.YtpklhnpchhaccaaGreatDoorBfMa
import Derived.Test.YtpklhnpchhaccaaGreatDoorInMn
namespace Go.Proofs.YtpklhnpchhaccaaGreatDoor
open Go Go.RowKit
set_option maxHeartbeats 16000000
set_option maxRecDepth 100000
set_option linter.unusedVariables false
set_option linter.unusedSimpArgs false
theorem zT {L : List (Nat × SV)} {s : BufS} (h : fO s.w) (hL : (L.all fun p => p.2.ids.all fun i => bfK.contains i) = true) : (jE L (fZ s) && fC ⟨bfK, [], false, none⟩ (fZ s)) = true := by
 have e1 : (fZ s).map (·.1) = bfK := rfl
 have h2 := qY s.vc _ h
 unfold jE
 rw [e1, hL]
 simp only [fZ, List.all_cons, List.all_nil, pW]
 rw [h2]
 rfl
def dS (p : PartD) : PartD := ⟨p.start, p.fin, [], [], p.prods⟩
def kN (st : Int) : List RowD → List RowD
 | [] => []
 | r :: l => if r.off < st then kN st l else r :: l
def iH (p : PartD) (e : EntD) : Option PartD := match bS (dS p) e with
 | some q => some { p with start := q.start, fin := q.fin, prods := q.prods, rows := kN q.start (p.rows ++ q.rows) }
 | none => none
theorem pQ : dC Tryz.prog 23 = some (47, 5, 56, [.int .i64 0, .int .i64 0, .int .i64 0, .string ByteArray.empty, .string ByteArray.empty]) := by
 (refine bL ?_; try with_reducible exact tt)
 rfl
abbrev aTd : List UInt8 := [97, 110, 32, 101, 110, 116, 114, 121, 32, 97, 115, 32, 105, 110, 32, 105, 110, 108, 105, 110, 101]
theorem aDh (s : BufS) (e : EntD) (q : PartD) (k : Nat) (hw : fO s.w) (hk : k ≤ 10000) (h : FOk k (dS s.p)) (he : SmallEn e) (hr : s.p.rows.length ≤ 1000000) (hst : bS (dS s.p) e = some q) (hok : aS e = true) (hkd : e.kind = 0 ∧ e.b.txn = false ∨ e.kind = 2 ∨ e.kind = 5 ∨ e.kind = 6) :
  FunG Tryz.prog 161 [.c (.own 0 0), jI e] bfK (bO (fZ s)) kD bfK (bO (fZ ⟨{ s.p with start := q.start, fin := q.fin, prods := q.prods, rows := kN q.start (s.p.rows ++ q.rows) }, s.w, s.vr + 1, s.vt, s.vc⟩)) := by
 have c1 := (aCe (dS s.p) e k h (by omega) he rfl rfl hok hkd).args (xs := [.agg [int s.p.start, int s.p.fin, zR, zR, .lst 4 (s.p.prods.map ProdD.dv)], .agg e.dv]) (.cons (.agg (.cons (.refl _) (.cons (.refl _) (.cons (.nil 5) (.cons (.nil 3) (.cons (.refl _) .nil)))))) (.cons (.refl _) .nil))
 have hq := (aEl h hst).rows
 have e1 : aJ1 (dS s.p) e = q.dv := by unfold aJ1; rw [hst]
 have e2 : aJ0 (dS s.p) e = 0 := by unfold aJ0; rw [hst]; rfl
 rw [e1, e2] at c1
 clear e1 e2
 have hlen : (s.p.rows ++ q.rows).length ≤ 2000000 := by rw [List.length_append]; omega
 refine FunG.of_bodyH rfl rfl Tryz.func161 rfl rfl Tryz.ntmps161 Tryz.results161 (Nat.le_of_ble_eq_true rfl) (jP rfl rfl hw hw) ?_
 simp only [EntD.dv, PartD.dv] at c1
 (refine gO (ai @aC (ai @EntD.dv.eq_1 (ai @PartD.dv.eq_1 (ai @List.map_cons.{0,0} (@List.map_nil.{0,0}))))) ?_; try with_reducible exact tt)
 (first | refine Wp.sregM aL ?_ | refine Wp.regM aL ?_ | (refine Wp.seq ?_; first | refine Wp.sregM aL ?_ | refine Wp.regM aL ?_))
 (refine cN.at 8 (fun K hK => ?_); (refine rO (ai @aC (ai @EntD.dv.eq_1 (ai @PartD.dv.eq_1 (ai @List.map_cons.{0,0} (@List.map_nil.{0,0}))))) ?_; try with_reducible exact tt); refine hK _ _ ?_; clear hK K)
 refine cN.rotApp (τ := 9) (n := s.vr) (xs := s.p.rows.map RowD.dv) (ys := q.rows.map RowD.dv) (cy := .d (.lst 5 (q.rows.map RowD.dv))) rfl pQ ⟨rfl, by decide, by decide⟩ ⟨by (refine rO (@aC) ?_; try with_reducible exact tt), by (refine rO (@aC) ?_; try with_reducible exact tt), by (refine rO (@aC) ?_; try with_reducible exact tt), by (refine rO (@aC) ?_; try with_reducible exact tt), rfl, by (refine rO (@aC) ?_; try with_reducible exact tt), by simp only [List.length_map]; rw [← List.length_append]; omega, rfl⟩ ?_
 rw [← List.map_append]
 (refine cN.done (fun K hK => ?_); (refine rO (ai @aC (ai @EntD.dv.eq_1 (ai @PartD.dv.eq_1 (ai @List.map_cons.{0,0} (@List.map_nil.{0,0}))))) ?_; try with_reducible exact tt); refine hK _ _ ?_; clear hK K; refine ⟨by kernel_rfl, ?_⟩)
 (refine gO (@aC) ?_; try with_reducible exact tt)
 generalize s.p.rows ++ q.rows = L at *
 refine Wp.loop (fun X : List RowD => ⟨lJ [(0, .c (.own 0 0))], bO (fZ ⟨{ s.p with start := q.start, fin := q.fin, prods := q.prods, rows := X }, s.w, s.vr + 1, s.vt, s.vc⟩), 1010, 98, ⟨bfK, [], false, none⟩⟩) (fun X => kN q.start X = kN q.start L ∧ X.length ≤ L.length) (fun X => X.length) L ⟨rfl, Nat.le_refl _⟩ ?_ ?_
 ·refine aF.keep rfl (zT hw rfl) ?_
  (refine rO (ai @aC (ai @EntD.dv.eq_1 (ai @PartD.dv.eq_1 (ai @List.map_cons.{0,0} (@List.map_nil.{0,0}))))) ?_; try with_reducible exact tt)
 rintro X ⟨hX, hXl⟩
 cases X with
 | nil =>
  rw [← hX]
  (refine gO (ai @aC (ai @List.map_nil.{0,0} (@List.length_nil.{0}))) ?_; try with_reducible exact tt)
  refine aT.ret ?_
  simp (maxSteps := 2000000) (disch := omega) only [iK, TY, cF, fB, gR, SV.ofD, eE, fM, gK, gL, bT, gM, fP, fN, gN, fK, gI, gH, gJ, CV.exact, CV.lstOf, CV.lenOf, CV.one, D.one, Value.oneCell', CV.toD0, gZ, oWn, hZ, gB, rD0, iB, gE, hJ, reduceCtorEq, reduceIte, Nat.reduceBEq, Nat.reduceEqDiff, Nat.reduceAdd, Nat.reduceMul, Nat.reduceSub, Nat.reduceLT, Nat.reduceLeDiff, Nat.reduceBNe, Int.reduceLE, Int.reduceLT, Int.reduceBEq, Int.reduceBNe, Int.reduceEq, Int.reduceNeg, Int.reduceAdd, Int.reduceSub, Int.reduceToNat, forall_const, aC, retG, aO, kN, List.map_nil]
 | cons r X =>
  have d0 : decide ((0 : Int) < (X.length : Int) + 1) = true := decide_eq_true (by omega)
  by_cases hlt : r.off < q.start
  ·have d1 : decide (r.off < q.start) = true := decide_eq_true hlt
   (first | refine Wp.stoD 87 (vb true) aL ?_ ?_ | refine Wp.rtoDS 87 (vb true) aL ?_ ?_ | (refine Wp.seq ?_; first | refine Wp.stoD 87 (vb true) aL ?_ ?_ | refine Wp.rtoDS 87 (vb true) aL ?_ ?_))
   ·((refine rO (ai d0 (ai d1 (ai @RowD.dv.eq_1 (ai @List.map_cons.{0,0} (ai @List.length_cons.{0} (@List.length_map.{0,0})))))) ?_; try with_reducible exact tt); (repeat (refine iE (by assumption) ?_; (refine rO (ai d0 (ai d1 (ai @RowD.dv.eq_1 (ai @List.map_cons.{0,0} (ai @List.length_cons.{0} (@List.length_map.{0,0})))))) ?_; try with_reducible exact tt))))
    all_goals (exact (show bV _ _ = true by kernel_rfl))
   refine Wp.condT (by (refine rO (@aC) ?_; try with_reducible exact tt)) (Wp.skip ?_)
   show Wp Tryz.prog _ _ _
   refine Wp.block ?_
   (first | refine Wp.sregG ?_ | refine Wp.regG ?_ | (refine Wp.seq ?_; first | refine Wp.sregG ?_ | refine Wp.regG ?_))
   (refine aG.at 6 (fun K hK => ?_); (refine rO (ai @aC (ai @RowD.dv.eq_1 (@List.map_cons.{0,0}))) ?_; try with_reducible exact tt); refine hK _ ?_; clear hK K)
   refine aG.rotTail (τ := 9) (n := s.vr + 1) (x0 := r.dv) (xs := X.map RowD.dv) rfl pQ ⟨by (refine rO (@aC) ?_; try with_reducible exact tt), by (refine rO (@aC) ?_; try with_reducible exact tt), by (refine rO (ai @aC (ai @RowD.dv.eq_1 (@List.map_cons.{0,0}))) ?_; try with_reducible exact tt), rfl⟩ ?_
   (refine aG.done (fun K hK => ?_); (refine rO (ai @aC (ai @RowD.dv.eq_1 (@List.map_cons.{0,0}))) ?_; try with_reducible exact tt); refine hK _ ?_; clear hK K)
   (refine gO (@aC) ?_; try with_reducible exact tt)
   refine ⟨X, ⟨?_, by simp only [List.length_cons] at hXl; omega⟩, by simp, aF.keep rfl (zT hw rfl) ?_⟩
   ·rw [← hX]; show _ = if _ then _ else _; rw [if_pos hlt]
   ·(refine rO (@aC) ?_; try with_reducible exact tt)
  ·have d1 : decide (r.off < q.start) = false := decide_eq_false hlt
   have hX2 : kN q.start L = r :: X := by rw [← hX]; show (if _ then _ else _) = _; rw [if_neg hlt]
   rw [hX2]
   (refine gO (ai @aC (ai d0 (ai d1 (ai @RowD.dv.eq_1 (ai @List.map_cons.{0,0} (ai @List.length_cons.{0} (@List.length_map.{0,0}))))))) ?_; try with_reducible exact tt)
   refine aT.ret ?_
   (refine rO (ai @aC (ai @aO.eq_1 (ai @aO.eq_2 (ai @RowD.dv.eq_1 (@List.map_cons.{0,0}))))) ?_; try with_reducible exact tt)
theorem aDg (s : BufS) (e : EntD) (k : Nat) (hw : fO s.w) (hk : k ≤ 10000) (h : FOk k (dS s.p)) (he : SmallEn e) (hst : bS (dS s.p) e = none) (hok : aS e = true) (hkd : e.kind = 0 ∧ e.b.txn = false ∨ e.kind = 2 ∨ e.kind = 5 ∨ e.kind = 6) :
  FunG Tryz.prog 161 [.c (.own 0 0), jI e] bfK (bO (fZ s)) (gY aTd) bfK (bO (fZ s)) := by
 have c1 := (aCe (dS s.p) e k h (by omega) he rfl rfl hok hkd).args (xs := [.agg [int s.p.start, int s.p.fin, zR, zR, .lst 4 (s.p.prods.map ProdD.dv)], .agg e.dv]) (.cons (.agg (.cons (.refl _) (.cons (.refl _) (.cons (.nil 5) (.cons (.nil 3) (.cons (.refl _) .nil)))))) (.cons (.refl _) .nil))
 have e1 : aJ1 (dS s.p) e = partZD := by unfold aJ1; rw [hst]
 have e2 : aJ0 (dS s.p) e = 70 := by unfold aJ0; rw [hst]; rfl
 rw [e1, e2] at c1
 clear e1 e2
 refine FunG.of_bodyH rfl rfl Tryz.func161 rfl rfl Tryz.ntmps161 Tryz.results161 (Nat.le_of_ble_eq_true rfl) (jP rfl rfl hw hw) ?_
 simp only [EntD.dv] at c1
 (refine gO (ai @aC (ai @EntD.dv.eq_1 (ai @List.map_cons.{0,0} (@List.map_nil.{0,0})))) ?_; try with_reducible exact tt)
 (refine rO (@aC) ?_; try with_reducible exact tt)
 refine aT.ret ?_
 (refine rO (ai @aC (ai @aO.eq_1 (@aO.eq_2))) ?_; try with_reducible exact tt)
theorem wQ : dC Tryz.prog 57 = some (62, 5, 56, [.int .i64 0, .int .i64 0, .int .i64 0, .bool false, .slice none 0 0]) := by
 (refine bL ?_; try with_reducible exact tt)
/-- What waits, with a producer's list. -/
def dP (w : Wts) (pid : Int) (l : List BatD) : Wts := if lS w pid then w.set (wI w pid) (pid, l) else w ++ [(pid, l)]
def iT (vt : Nat → Nat) (q n : Nat) : Nat → Nat := fun i => if i = q then n else vt i
theorem aEc {w : Wts} (h : fO w) {pid : Int} (hp : 1 ≤ pid ∧ pid ≤ 8) (l : List BatD) : fO (dP w pid l) := by
 unfold dP
 split
 ·intro x hx
  rcases List.mem_or_eq_of_mem_set hx with h1 | rfl
  ·exact h x h1
  ·exact hp
 ·intro x hx
  rcases List.mem_append.1 hx with h1 | h1
  ·exact h x h1
  ·simp at h1; subst h1; exact hp
structure OkW (w : Wts) : Prop where
 pid : fO w
 nd : (w.map (·.1)).Nodup
 bats : ∀ x ∈ w, x.2.length ≤ 8
 recs : ∀ x ∈ w, ∀ b ∈ x.2, b.recs.length ≤ 4
theorem kK {w : Wts} {pid : Int} (h : lS w pid = true) : w[wI w pid]? = some (pid, cD w pid) := by
 have hlt : wI w pid < w.length := of_decide_eq_true h
 unfold cD
 rw [List.getElem?_eq_getElem hlt]
 exact congrArg some (Prod.ext (aL1 hlt) rfl)
theorem pA {w : Wts} {pid : Int} (h : lS w pid = false) : cD w pid = [] := by
 unfold cD
 rw [uO h, List.getElem?_eq_none (Nat.le_refl _)]
theorem aQi {vt : Nat → Nat} {w : Wts} {pid : Int} (h : lS w pid = true) : (pI vt w)[wI w pid]? = some (.apt (30 + pid.toNat) 5 ((cD w pid).map BatD.dv) (vt pid.toNat)) := by
 unfold pI
 rw [List.getElem?_map, kK h]; rfl
theorem xT (w : Wts) (pid : Int) (l : List BatD) : oA (dP w pid l) = if lS w pid then oA w else oA w ++ [pid] := by
 unfold dP oA
 split
 ·rename_i h
  have hk := qQ h
  unfold oA at hk
  rw [List.map_set]
  exact List.ext_getElem? (fun i => by
   rw [List.getElem?_set]
   split
   ·rename_i e; subst e
    split
    ·rw [hk]
    ·rename_i h2
     rw [List.getElem?_eq_none (by simpa using h2)]
   ·rfl)
 ·simp
theorem aL0 {vt : Nat → Nat} {w : Wts} {pid : Int} (hw : OkW w) (hp : 1 ≤ pid ∧ pid ≤ 8) (l : List BatD) (n : Nat) :
  pI (iT vt pid.toNat n) (dP w pid l) = if lS w pid then (pI vt w).set (wI w pid) (.apt (30 + pid.toNat) 5 (l.map BatD.dv) n) else pI vt w ++ [.apt (30 + pid.toNat) 5 (l.map BatD.dv) n] := by
 have hb : iT vt pid.toNat n pid.toNat = n := by unfold iT; rw [if_pos rfl]
 have hne : ∀ x ∈ w, x.1 ≠ pid → iT vt pid.toNat n x.1.toNat = vt x.1.toNat := fun x hx hn => by
  have := hw.pid x hx
  unfold iT; rw [if_neg (by omega)]
 unfold dP
 split
 ·rename_i h
  unfold pI
  rw [List.map_set]
  dsimp only
  rw [hb]
  refine List.ext_getElem? (fun j => ?_)
  rw [List.getElem?_set, List.getElem?_set, List.length_map, List.length_map]
  split
  ·rfl
  ·rename_i hj
   rw [List.getElem?_map, List.getElem?_map]
   cases hg : w[j]? with
   | none => rfl
   | some x =>
    have hjl := (List.getElem?_eq_some_iff.1 hg).1
    have hlt : wI w pid < w.length := of_decide_eq_true h
    have hxe := (List.getElem?_eq_some_iff.1 hg).2
    have : x.1 ≠ pid := fun e => by
     have h1 := aL1 hlt
     have hpw := List.pairwise_iff_getElem.1 hw.nd
     have e3 : (w.map (·.1))[wI w pid]'(by simpa using hlt) = (w.map (·.1))[j]'(by simpa using hjl) := by
      rw [List.getElem_map, List.getElem_map, h1, hxe, e]
     rcases Nat.lt_or_gt_of_ne hj with h4 | h4
     ·exact hpw _ _ _ _ h4 e3
     ·exact hpw _ _ _ _ h4 e3.symm
    simp only [Option.map_some]
    rw [hne x (List.mem_of_getElem? hg) this]
 ·rename_i h
  have h : lS w pid = false := by simpa using h
  have hno := jT h
  unfold pI
  rw [List.map_append, List.map_cons, List.map_nil, hb]
  congr 1
  exact List.map_congr_left (fun x hx => by rw [hne x hx (fun e => hno (by unfold oA; exact List.mem_map.2 ⟨x, hx, e⟩))])
theorem aQk {vt : Nat → Nat} {w : Wts} {pid : Int} (hw : OkW w) (hp : 1 ≤ pid ∧ pid ≤ 8) (l : List BatD) (n : Nat) (h : lS w pid = true) :
  (pI vt w).set (wI w pid) (.apt (30 + pid.toNat) 5 (l.map BatD.dv) n) = pI (iT vt pid.toNat n) (dP w pid l) ∧ oA w = oA (dP w pid l) := by
 rw [aL0 hw hp, xT, if_pos h, if_pos h]; exact ⟨rfl, rfl⟩
theorem aQj {vt : Nat → Nat} {w : Wts} {pid : Int} (hw : OkW w) (hp : 1 ≤ pid ∧ pid ≤ 8) (l : List BatD) (n : Nat) (h : lS w pid = false) :
  pI vt w ++ [.apt (30 + pid.toNat) 5 (l.map BatD.dv) n] = pI (iT vt pid.toNat n) (dP w pid l) ∧ oA w ++ [pid] = oA (dP w pid l) := by
 rw [aL0 hw hp, xT, if_neg (by rw [h]; exact Bool.false_ne_true), if_neg (by rw [h]; exact Bool.false_ne_true)]; exact ⟨rfl, rfl⟩
/-- The fold's boxes, an lX, its batch. -/
abbrev bfX (s : BufS) (e : EntD) : List (Nat × HE) := fZ s ++ [(1000, .cells (e.dv.map CV.d)), (1001, .cells (e.b.dv.map CV.d))]
theorem nK {L : List (Nat × SV)} {s : BufS} {e : EntD} (h : fO s.w) (hL : (L.all fun p => p.2.ids.all fun i => (bfK ++ [1000, 1001]).contains i) = true) : (jE L (bfX s e) && fC ⟨bfK, [], false, none⟩ (bfX s e)) = true := by
 have e1 : (bfX s e).map (·.1) = bfK ++ [1000, 1001] := rfl
 have h2 := qY s.vc _ h
 have h3 : (((pI s.vc s.w).flatMap CV.ids).all fun i => (bfK ++ [1000, 1001]).contains i) = true := by
  rw [List.all_eq_true] at h2 ⊢
  intro i hi
  have := h2 i hi
  simp only [List.contains_iff_mem, List.mem_append] at this ⊢
  exact .inl this
 unfold jE
 rw [e1, hL]
 have i1 : HE.ids (.cells (e.dv.map CV.d)) = [] := jK _
 have i2 : HE.ids (.cells (e.b.dv.map CV.d)) = [] := jK _
 simp only [bfX, fZ, List.cons_append, List.nil_append, List.all_cons, List.all_nil, pW, i1, i2]
 rw [show ((pI s.vc s.w).flatMap CV.ids).all (fun i => [0, 8, 9, 10, 31, 32, 33, 34, 35, 36, 37, 38, 1000, 1001].contains i) = true from h3]
 rfl
theorem aF.aptD {σ : St} {t τ sz n : Nat} {xs : List (List D)} (ht : σ.env t = .c (.apt τ sz xs n)) : aF σ { σ with env := upd σ.env t (.c (.d (.lst sz xs))) } := by
 intro W0 K0 g a w r
 refine ⟨g, r.mem, fun u => ?_, r.size, r.defers, r.ln, r.rd, r.nodup, r.lt⟩
 show aX g _ (upd σ.env t _ u) _
 by_cases h : u = t
 ·subst h; rw [aB]
  have hv := r.env u
  rw [ht] at hv
  exact hv.1
 ·rw [aA _ _ h]; exact r.env u
end Go.Proofs.YtpklhnpchhaccaaGreatDoor
