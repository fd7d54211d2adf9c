/- The abstract machine (InNa, InNb, InNc, InNd, InCo). -/
import Derived.Test.YtpklhnpchhaccaaGreatDoorInMe
import Derived.Test.YtpklhnpchhaccaaGreatDoorMpQ
namespace Go.Proofs.YtpklhnpchhaccaaGreatDoor
open Go Go.RowKit
set_option maxHeartbeats 4000000
set_option maxRecDepth 100000
set_option linter.unusedVariables false
set_option linter.unusedSimpArgs false
/-- A function that is handed an empty list. -/
theorem FunG.of_nil {P : Program} {f : FuncId} {ars : List SV} {sz : Nat} {ks ks' : List Nat} {B B' : Hp} {r : SV} (h : ∀ a c, FunG P f (.c (.d (.val (.slice a 0 c))) :: ars) ks B r ks' B') : FunG P f (.c (.d (.lst sz [])) :: ars) ks B r ks' B' := by
 have h0 := h none 0
 refine ⟨h0.body, h0.sup, h0.sup', h0.sub, h0.cl, fun a ha i hi => ?_, fun g w vs hh hL => ?_⟩
 ·rcases List.mem_cons.1 ha with rfl | ha
  ·cases hi
  ·exact h0.ids a (List.mem_cons_of_mem _ ha) i hi
 ·obtain ⟨h1, h2⟩ := hL
  cases vs with
  | nil => cases h1
  | cons v vs =>
   have hv := h2 0 _ v rfl rfl
   have hv : Rep g.K (.lst sz []) v := hv
   obtain ⟨a2, c2, us, rfl, _⟩ := hv.inv
   refine (h a2 c2).calls g w _ hh ⟨h1, fun j x u hx hu => ?_⟩
   cases j with
   | zero => cases hx; cases hu; exact Rep.val _
   | succ j => exact h2 (j + 1) x u hx hu
theorem aGu {args : List SV} {r : SV} {k e sz v' : Nat} {xs : List (List D)} (ha : (args.all fun a => nX a.ids []) = true) (hr : nX r.ids [k] = true) : okG args r [] [(k, .mrow e sz v' (xs.flatten.map CV.d))] = true := by
 unfold okG okB
 simp only [List.map_cons, List.map_nil, List.all_cons, List.all_nil, HE.ids, jK, Bool.and_true, ha, hr]
 simp [nX]
theorem aB3 (l : List RowD) (hl : l.length ≤ 1000000) : FunG Tryz.prog 277 [.c (.d (.lst 5 (l.map RowD.dv)))] [] (bO []) (.c (.mt 9 2)) [9] (bO [(9, .mrow 47 5 2 (eD l))]) := by
 cases l with
 | nil =>
  refine FunG.of_nil (fun a c => ?_)
  refine FunG.of_bodyH rfl rfl Tryz.func277 rfl rfl Tryz.ntmps277 Tryz.results277 (Nat.le_of_ble_eq_true rfl) (aGu (xs := []) rfl rfl) ?_
  cases a with
  | none =>
   (refine gO (ai @aC (ai @Option.isNone_none.{0} (@Option.isNone_some.{0}))) ?_)
   show aT _ _ _ _ _ Exit.ret _
   refine aT.weak (aF.mtNew 2 (by decide) (t := 2) (τ := 9) (e := 47) (sz := 5) (by decide) (by (refine rO (@aC) ?_; try with_reducible exact tt)) (by (refine rO (@aC) ?_; try with_reducible exact tt)) (.inl rfl)) ?_
   refine aT.ret ?_
   (refine rO (ai @aC (ai @aO.eq_1 (ai @aO.eq_2 (ai @eD.eq_1 (ai @List.map_nil.{0,0} (@List.flatten_nil.{0})))))) ?_; try with_reducible exact tt)
  | some ad =>
   (refine Wp.sreg (fun K hK => ?_); (refine rO (@aC) ?_); refine hK _ ?_; clear hK K)
   refine Wp.seq ?_
   (refine Wp.sreg (fun K hK => ?_); (refine rO (ai @aC (@Option.isNone_some.{0})) ?_); refine hK _ ?_; clear hK K)
   refine Wp.condG (fun K hK hF => ?_)
   (refine rO (@aC) ?_)
   refine hF ?_
   clear hK hF K
   refine Wp.skip ?_
   (first | refine Wp.sregG ?_ | refine Wp.regG ?_ | (refine Wp.seq ?_; first | refine Wp.sregG ?_ | refine Wp.regG ?_))
   (refine aG.at 1 (fun K hK => ?_); (refine rO (@aC) ?_); refine hK _ ?_; clear hK K)
   refine aG.weak (aF.mtNew 1 (by decide) (t := 5) (τ := 9) (e := 47) (sz := 5) (by decide) (by (refine rO (@aC) ?_; try with_reducible exact tt)) (by (refine rO (@aC) ?_; try with_reducible exact tt)) (.inr rfl)) ?_
   (refine aG.done (fun K hK => ?_); (refine rO (@aC) ?_); refine hK _ ?_; clear hK K)
   (refine gO (@aC) ?_)
   refine aT.ret ?_
   (refine rO (ai @aC (ai @aO.eq_1 (ai @aO.eq_2 (ai @eD.eq_1 (ai @List.map_nil.{0,0} (@List.flatten_nil.{0})))))) ?_; try with_reducible exact tt)
 | cons f fs =>
  have hb : (fs.length + 1) * 56 ≤ 140737488355328 := by simp at hl; omega
  refine FunG.of_bodyH rfl rfl Tryz.func277 rfl rfl Tryz.ntmps277 Tryz.results277 (Nat.le_of_ble_eq_true rfl) (aGu rfl rfl) ?_
  (refine Wp.sreg (fun K hK => ?_); (refine rO (@aC) ?_); refine hK _ ?_; clear hK K)
  refine Wp.seq ?_
  (refine Wp.sreg (fun K hK => ?_); (refine rO (@aC) ?_); refine hK _ ?_; clear hK K)
  refine Wp.condG (fun K hK hF => ?_)
  (refine rO (@aC) ?_)
  refine hF ?_
  clear hK hF K
  refine Wp.skip ?_
  (first | refine Wp.sregG ?_ | refine Wp.regG ?_ | (refine Wp.seq ?_; first | refine Wp.sregG ?_ | refine Wp.regG ?_))
  (refine aG.at 1 (fun K hK => ?_); (refine rO (@aC) ?_); refine hK _ ?_; clear hK K)
  refine aG.weak (aF.mtNew 1 (by decide) (t := 5) (τ := 9) (e := 47) (sz := 5) (by decide) (by (refine rO (@aC) ?_; try with_reducible exact tt)) (by (refine rO (@aC) ?_; try with_reducible exact tt)) (.inr rfl)) ?_
  (refine aG.done (fun K hK => ?_); (refine rO (ai @aC (hb)) ?_); refine hK _ ?_; clear hK K)
  (refine gO (@aC) ?_)
  refine aT.ret ?_
  (refine rO (ai @aC (ai @aO.eq_1 (ai @aO.eq_2 (@eD.eq_1)))) ?_; try with_reducible exact tt)
set_option maxHeartbeats 8000000
theorem uB (ρ : Nat → Nat) (vt : Nat → Nat) : ∀ (l : List OpenD), (∀ x ∈ l, ρ (10 + x.pid.toNat) = 10 + x.pid.toNat) → (cV vt l).map (CV.ren ρ) = cV vt l
 | [], _ => rfl
 | o :: l, h => by
  have h1 := h o (List.mem_cons_self ..)
  have ih := uB ρ vt l (fun x hx => h x (List.mem_cons_of_mem _ hx))
  unfold cV at ih ⊢
  rw [List.flatMap_cons, List.map_append, ih]
  simp only [List.map_cons, List.map_nil, CV.ren, h1]
theorem aPb (q : ProdD) (hq : q.seen.length ≤ 100000) : bR Tryz.prog 282 [.agg q.dv] (.agg q.dv) := by
 have c1 := (yJ (q.seen.map SeenD.dv) (by simp; omega)).fun
 (refine bR.of_body Tryz.func282 rfl rfl Tryz.ntmps282 Tryz.results282 (by simp) ?_)
 (refine gO (@ProdD.dv.eq_1) ?_)
 (refine rO (@ProdD.dv.eq_1) ?_; try with_reducible exact tt)
theorem aMm {α β : Type} (f : α → β) (l : List α) (k : Nat) (h : k < l.length) : (l.take (k + 1)).map f = (l.take k).map f ++ [f l[k]] := by
 rw [List.take_succ_eq_append_getElem h, List.map_append]; rfl
theorem aLv (l : List ProdD) (hl : l.length ≤ 100000) (hs : ∀ q ∈ l, q.seen.length ≤ 100000) : bR Tryz.prog 281 [.lst 4 (l.map ProdD.dv), .fn (.func 282) []] (.lst 4 (l.map ProdD.dv)) := by
 (refine bR.of_body Tryz.func281 rfl rfl Tryz.ntmps281 Tryz.results281 (by simp) ?_)
 (refine dD ?_)
 refine Wp.weak (aF.nilApp (t := 5) (τ := 1) 69 4 (by (refine bL ?_; try with_reducible exact tt)) (by (refine bL ?_; try with_reducible exact tt))) ?_
 refine Wp.loop (fun k : Nat => ⟨lJ [(1, .c (.d (.fn (.func 282) []))), (5, .c (.app 1 4 ((l.take k).map ProdD.dv))), (8, .c (.d (.lst 4 (l.map ProdD.dv)))), (9, vi .i64 l.length), (10, vi .i64 k)], bO [(1, .row 69 4 k)], 2, 22, 0⟩) (fun k => k ≤ l.length) (fun k => l.length - k) 0 (Nat.zero_le _) ?_ ?_
 ·refine aF.keep rfl rfl ?_
  (refine rO (ai @List.take_zero.{0} (ai @List.map_nil.{0,0} (@List.length_nil.{0}))) ?_; try with_reducible exact tt)
 intro k hk
 by_cases hkl : k < l.length
 ·have d1 : decide ((k : Int) < (l.length : Int)) = true := decide_eq_true (by omega)
  have hge : l[k]? = some l[k] := List.getElem?_eq_getElem hkl
  have hwk : IntKind.i64.wrap ((k : Int) + 1) = ((k + 1 : Nat) : Int) := by rw [aW (by omega)]; rfl
  have hsn := aMm ProdD.dv l k hkl
  have hll : ((l.take k).map ProdD.dv).length = k := by rw [List.length_map, List.length_take]; omega
  have hx := hs _ (List.getElem_mem hkl)
  generalize l[k] = q at *
  have c1 := aPb q hx
  simp only [ProdD.dv] at c1
  generalize (l.take k).map ProdD.dv = L at *
  have hsz : (k + 1) * 48 ≤ 140737488355328 := by omega
  (refine gO (ai d1 (ai hge (ai @ProdD.dv.eq_1 (ai hll (hsz))))) ?_)
  refine ⟨k + 1, hkl, by omega, aF.keep rfl rfl ?_⟩
  rw [hsn]
  (refine rO (ai hwk (ai @ProdD.dv.eq_1 (ai hll (ai @List.map_cons.{0,0} (@List.map_nil.{0,0}))))) ?_; try with_reducible exact tt)
 ·have hke : k = l.length := by omega
  subst hke
  rw [List.take_length]
  have d1 : decide ((l.length : Int) < (l.length : Int)) = false := by simp
  (refine gO (d1) ?_)
  (refine bL ?_; try with_reducible exact tt)
abbrev aU2 (s : FoldS) : List (Nat × HE) := (mM s).tail
abbrev inK9 : List Nat := [9, 10, 11, 12, 13, 14, 15, 16, 17, 18]
theorem aSa {args : List SV} {r : SV} {s : FoldS} (ha : (args.all fun a => nX a.ids []) = true) (hr : nX r.ids inK9 = true) (h1 : lA s.p.opens) : okG args r [] (aU2 s) = true := by
 have h2 := yY inK9 (fun q h1 h2 => by
  have hq2 : q = 1 ∨ q = 2 ∨ q = 3 ∨ q = 4 ∨ q = 5 ∨ q = 6 ∨ q = 7 ∨ q = 8 := by omega
  rcases hq2 with rfl | rfl | rfl | rfl | rfl | rfl | rfl | rfl <;> rfl) s.vt _ h1
 have e2 : (aU2 s).map (·.1) = inK9 := rfl
 unfold okG
 rw [e2, hr]
 simp only [List.map_nil, ha]
 unfold okB
 simp only [mM, List.tail_cons, List.all_cons, List.all_nil, HE.ids, eD, eC, jK, Bool.and_true, Bool.true_and]
 rw [h2]
 rfl
theorem mF (e v : Nat) (vt : Nat → Nat) (l : List OpenD) : HE.ren (fun x => if x = 0 then 3 else if x = 3 then 0 else x) (.mrow e 3 v (cV vt l)) = .mrow e 3 v (cV vt l) := by
 show HE.mrow e 3 v (List.map _ _) = _
 rw [uB _ _ l (fun x hx => by
  have e1 : ¬ 10 + x.pid.toNat = 0 := by omega
  have e2 : ¬ 10 + x.pid.toNat = 3 := by omega
  simp only [e1, e2, if_false])]
def aJ1 (p : PartD) (e : EntD) : List D := match bS p e with
 | some q => q.dv
 | none => partZD
def aJ0 (p : PartD) (e : EntD) : Int := if (bS p e).isSome then 0 else 70
def vt0 (_ : Nat) : Nat := 0
abbrev eB0 : List (Nat × HE) :=
  [(10, .mrow 95 3 1 (cV vt0 [])),
   (11, .mrow 62 5 (vt0 1) (eC (eK [] 1))), (12, .mrow 62 5 (vt0 2) (eC (eK [] 2))), (13, .mrow 62 5 (vt0 3) (eC (eK [] 3))), (14, .mrow 62 5 (vt0 4) (eC (eK [] 4))),
   (15, .mrow 62 5 (vt0 5) (eC (eK [] 5))), (16, .mrow 62 5 (vt0 6) (eC (eK [] 6))), (17, .mrow 62 5 (vt0 7) (eC (eK [] 7))), (18, .mrow 62 5 (vt0 8) (eC (eK [] 8)))]
abbrev eK0 : List Nat := [10, 11, 12, 13, 14, 15, 16, 17, 18]
theorem aIb : FunG Tryz.prog 278 [.c (.d (.lst 3 [])), .c (.d (.fn (.func 279) []))] [] (bO []) (.c (.mt 10 1)) eK0 (bO eB0) := by
 refine FunG.of_bodyH rfl rfl Tryz.func278 rfl rfl Tryz.ntmps278 Tryz.results278 (Nat.le_of_ble_eq_true rfl) rfl ?_
 (refine gO (ai @aC (@List.length_nil.{0})) ?_; try with_reducible exact tt)
 refine Wp.weak (aF.mtNew 1 (by decide) (t := 5) (τ := 10) (e := 95) (sz := 3) (by decide) (by (refine rO (@aC) ?_; try with_reducible exact tt)) (by (refine rO (@aC) ?_; try with_reducible exact tt)) (.inl rfl)) ?_
 refine Wp.weakE (aT8 62 5 (by decide) 8 _ 11 (fun i h1 h2 => by
  have g0 : ¬ i = 10 := by omega
  simp [upd, bO, g0])) ?_
 rintro H' ⟨f1, f2⟩
 have f10 : H' 10 = some (.mrow 95 3 1 []) := (f2 10 (by omega)).trans (by (refine rO (@aC) ?_; try with_reducible exact tt))
 have f11 := f1 11 (by decide) (by decide); have f12 := f1 12 (by decide) (by decide); have f13 := f1 13 (by decide) (by decide); have f14 := f1 14 (by decide) (by decide)
 have f15 := f1 15 (by decide) (by decide); have f16 := f1 16 (by decide) (by decide); have f17 := f1 17 (by decide) (by decide); have f18 := f1 18 (by decide) (by decide)
 clear f1 f2
 refine Wp.loop (fun _ : Unit => ⟨lJ [(1, .c (.d (.fn (.func 279) []))), (5, .c (.mt 10 1)), (8, .c (.d (.lst 3 []))), (9, vi .i64 0), (10, vi .i64 0)], bO eB0, 1000, 22, ⟨[], [], false, none⟩⟩) (fun _ => True) (fun _ => 0) () trivial ?_ ?_
 ·refine aF.keep rfl rfl ?_
  simp (maxSteps := 2000000) (disch := omega) only [iK, TY, cF, fB, gR, SV.ofD, eE, fM, gK, gL, bT, gM, fP, fN, gN, fK, gI, gH, gJ, CV.exact, CV.lstOf, CV.lenOf, CV.one, D.one, Value.oneCell', CV.toD0, gZ, oWn, hZ, gB, rD0, iB, gE, hJ, reduceCtorEq, reduceIte, Nat.reduceBEq, Nat.reduceEqDiff, Nat.reduceAdd, Nat.reduceMul, Nat.reduceSub, Nat.reduceLT, Nat.reduceLeDiff, Nat.reduceBNe, Int.reduceLE, Int.reduceLT, Int.reduceBEq, Int.reduceBNe, Int.reduceEq, Int.reduceNeg, Int.reduceAdd, Int.reduceSub, Int.reduceToNat, forall_const, aC, eC, eK, vt0, cV, List.find?_nil, f10, f11, f12, f13, f14, f15, f16, f17, f18, List.map_nil, List.flatten_nil, List.flatMap_nil, List.length_nil]
 intro _ _
 (refine gO (@aC) ?_; try with_reducible exact tt)
 refine aT.ret ?_
 (refine rO (ai @aC (ai @aO.eq_1 (@aO.eq_2))) ?_; try with_reducible exact tt)
def aA1 (p : PartD) : FoldS := ⟨⟨p.start, p.fin, [], [], p.prods⟩, 2, 1, vt0⟩
theorem aPa (p : PartD) (hr0 : p.rows = []) (ho0 : p.opens = []) (hpr : p.prods.length ≤ 100000) (hs : ∀ q ∈ p.prods, q.seen.length ≤ 100000) :
  FunG Tryz.prog 251 [.agg (p.dv.map CV.d)] [] (bO []) (.agg [.d (int p.start), .d (int p.fin), .mt 9 2, .mt 10 1, .d (.lst 4 (p.prods.map ProdD.dv))]) inK9 (bO (aU2 (aA1 p))) := by
 obtain ⟨pa, pb, pr, po, pp⟩ := p
 dsimp only at hr0 ho0
 subst hr0; subst ho0
 have c1 := aB3 [] (by decide)
 have c2 := aIb
 have c3 := aLv pp hpr hs
 refine FunG.of_bodyH rfl rfl Tryz.func251 rfl rfl Tryz.ntmps251 Tryz.results251 (Nat.le_of_ble_eq_true rfl) (aSa rfl rfl (fun x hx => by cases hx)) ?_
 (refine gO (ai @aC (ai @PartD.dv.eq_1 (ai @List.map_cons.{0,0} (@List.map_nil.{0,0})))) ?_; try with_reducible exact tt)
 (first | refine Wp.sregG ?_ | refine Wp.regG ?_ | (refine Wp.seq ?_; first | refine Wp.sregG ?_ | refine Wp.regG ?_))
 (refine aG.at 2 (fun K hK => ?_); (refine rO (@aC) ?_; try with_reducible exact tt); refine hK _ ?_; clear hK K)
 (refine aG.call (c1) [] 1010 rfl rfl ?_ ?_; (focus ((refine rOs (ai @eN (ai @aC (@gC))) ?_; try with_reducible exact tt); done)))
 (refine aG.done (fun K hK => ?_); (refine rOs (ai @aC (ai @cW.eq_1 (ai @cW.eq_2 (ai @eN (ai @gC (ai @List.map_cons.{0,0} (@List.map_nil.{0,0}))))))) ?_; try with_reducible exact tt); refine hK _ ?_; clear hK K)
 (first | refine Wp.sregG ?_ | refine Wp.regG ?_ | (refine Wp.seq ?_; first | refine Wp.sregG ?_ | refine Wp.regG ?_))
 (refine aG.at 2 (fun K hK => ?_); (refine rO (@aC) ?_; try with_reducible exact tt); refine hK _ ?_; clear hK K)
 (refine aG.call (c2) [] 1010 rfl rfl ?_ ?_; (focus ((refine rOs (ai @eN (ai @aC (ai @gC (@aQ)))) ?_; try with_reducible exact tt); done)))
 (refine aG.done (fun K hK => ?_); (refine rOt (ai @aC (ai @cW.eq_1 (ai @cW.eq_2 (ai @aQ (ai @bZ (ai @List.map_cons.{0,0} (@List.map_nil.{0,0}))))))) ?_; try with_reducible exact tt); refine hK _ ?_; clear hK K)
 (refine gO (@aC) ?_; try with_reducible exact tt)
 refine aT.ret ?_
 simp (maxSteps := 2000000) (disch := omega) only [iK, TY, cF, fB, gR, SV.ofD, eE, fM, gK, gL, bT, gM, fP, fN, gN, fK, gI, gH, gJ, CV.exact, CV.lstOf, CV.lenOf, CV.one, D.one, Value.oneCell', CV.toD0, gZ, oWn, hZ, gB, rD0, iB, gE, hJ, reduceCtorEq, reduceIte, Nat.reduceBEq, Nat.reduceEqDiff, Nat.reduceAdd, Nat.reduceMul, Nat.reduceSub, Nat.reduceLT, Nat.reduceLeDiff, Nat.reduceBNe, Int.reduceLE, Int.reduceLT, Int.reduceBEq, Int.reduceBNe, Int.reduceEq, Int.reduceNeg, Int.reduceAdd, Int.reduceSub, Int.reduceToNat, forall_const, aC, retG, aO, aA1, mM, List.tail_cons]
theorem aGc (f : Nat) (caps : List D) :
  bR Tryz.prog 264 [.lst 5 [], .fn (.func f) caps] (int (-1)) := by
 (refine bR.of_body Tryz.func264 rfl rfl Tryz.ntmps264 Tryz.results264 (by simp) ?_)
 (refine gO (@List.length_nil.{0}) ?_; try with_reducible exact tt)
 refine Wp.loop (fun _ : Unit => ⟨lJ [(0, .c (.d (.lst 5 []))), (1, .c (.d (.fn (.func f) caps))), (6, .c (.d (.lst 5 []))), (7, vi .i64 0), (8, vi .i64 0)], bO [], 0, 19, 0⟩) (fun _ => True) (fun _ => 0) () trivial ?_ ?_
 ·refine aF.keep rfl rfl ?_
  (refine rO (@List.length_nil.{0}) ?_; try with_reducible exact tt)
 intro _ _
 (refine dD ?_; try with_reducible exact tt)
 (refine bL ?_; try with_reducible exact tt)
theorem aOv {e v v' : Nat} {args : List SV} {r : SV} (ha : (args.all fun a => nX a.ids [9]) = true) (hr : nX r.ids [9] = true) : okG args r [(9, .mrow e 5 v (eD []))] [(9, .mrow e 5 v' (eD []))] = true := by
 unfold okG
 simp only [List.map_cons, List.map_nil, ha, hr]
 rfl
theorem aJn (vr : Nat) : CV.snap (bO [(9, .mrow 47 5 vr (eD []))]) 3 (.mt 9 vr) = some (.lst 5 []) :=
 sQ (e := 47) [] (by decide) (fun x hx => by cases hx) rfl
theorem aLu (vr f : Nat) (caps : List D) :
  FunG Tryz.prog 306 [.c (.mt 9 vr), .c (.d (.fn (.func f) caps))] [9] (bO [(9, .mrow 47 5 vr (eD []))]) (.c (.mt 9 vr)) [9] (bO [(9, .mrow 47 5 vr (eD []))]) := by
 have c1 := aGc f caps
 refine FunG.of_bodyH rfl rfl Tryz.func306 rfl rfl Tryz.ntmps306 Tryz.results306 (Nat.le_of_ble_eq_true rfl) (aOv rfl rfl) ?_
 (refine gO (@aC) ?_; try with_reducible exact tt)
 refine Wp.reg (fun K hK => ?_)
 (refine rO (ai @aC (ai @CV.toD.eq_1 (ai @CV.toD.eq_2 (ai @CV.toD.eq_3 (ai @CV.toD.eq_4 (ai @CV.toD.eq_5 (ai @CV.toD.eq_6 (ai @CV.toD.eq_7 (ai @CV.toD.eq_8 (ai @CV.toD.eq_9 (ai @CV.toD.eq_10 (ai @CV.toD.eq_11 (@CV.toD.eq_12))))))))))))) ?_; try with_reducible exact tt)
 refine iC c1 rfl (by simp only [bI, SV.snap, aJn vr, aAe, Option.map_some, List.append_nil]) ?_
 (refine rO (@aC) ?_; try with_reducible exact tt)
 refine hK _ ?_
 clear hK K
 (refine gO (@aC) ?_; try with_reducible exact tt)
 refine aT.ret ?_
 (refine rO (ai @aC (ai @aO.eq_1 (@aO.eq_2))) ?_; try with_reducible exact tt)
def aO3 (s : FoldS) (o : Int) : FoldS := ⟨{ s.p with start := o }, s.vr, s.vo, s.vt⟩
theorem aO4 (s : FoldS) (e : EntD) (hp : OpOk s.p.opens) (hr0 : s.p.rows = []) (hc : s.p.start ≤ e.off ∧ e.off ≤ s.p.fin) :
  FunG Tryz.prog 285 [.c (.own 0 0), jI e] inK (bO (mM s)) kD inK (bO (mM (aO3 s e.off))) := by
 obtain ⟨⟨pa, pb, pr, po, pp⟩, vr, vo, vt⟩ := s
 dsimp only at hr0 hc hp
 subst hr0
 have c1 := aLu vr 307 [.ptr e.dv 0]
 have d1 : decide (e.off < pa) = false := decide_eq_false (by omega)
 have d2 : decide (pb < e.off) = false := decide_eq_false (by omega)
 simp only [EntD.dv] at c1
 refine FunG.of_bodyH rfl rfl Tryz.func285 rfl rfl Tryz.ntmps285 Tryz.results285 (Nat.le_of_ble_eq_true rfl) (lK rfl rfl hp.pid hp.pid) ?_
 (refine gO (ai @aC (ai @EntD.dv.eq_1 (ai d1 (d2)))) ?_; try with_reducible exact tt)
 (refine Wp.weak (aF.freeze (id := 1000) (by (refine bL ?_; try with_reducible exact tt); rfl) (by (refine bL ?_; try with_reducible exact tt); rfl)) ?_)
 (first | refine Wp.sregG ?_ | refine Wp.regG ?_ | (refine Wp.seq ?_; first | refine Wp.sregG ?_ | refine Wp.regG ?_))
 (refine aG.at 7 (fun K hK => ?_); simp (maxSteps := 2000000) (disch := omega) only [iK, TY, cF, fB, gR, SV.ofD, eE, fM, gK, gL, bT, gM, fP, fN, gN, fK, gI, gH, gJ, CV.exact, CV.lstOf, CV.lenOf, CV.one, D.one, Value.oneCell', CV.toD0, gZ, oWn, hZ, gB, rD0, iB, gE, hJ, reduceCtorEq, reduceIte, Nat.reduceBEq, Nat.reduceEqDiff, Nat.reduceAdd, Nat.reduceMul, Nat.reduceSub, Nat.reduceLT, Nat.reduceLeDiff, Nat.reduceBNe, Int.reduceLE, Int.reduceLT, Int.reduceBEq, Int.reduceBNe, Int.reduceEq, Int.reduceNeg, Int.reduceAdd, Int.reduceSub, Int.reduceToNat, forall_const, aC, aNx]; refine hK _ ?_; clear hK K)
 (refine aG.call (c1) [] 1001 rfl rfl ?_ ?_; (focus ((refine rOs (ai @eN (ai @aC (@gC))) ?_; try with_reducible exact tt); done)))
 (refine aG.done (fun K hK => ?_); (refine rOs (ai @aC (ai @cW.eq_1 (ai @cW.eq_2 (ai @gC (ai @List.map_cons.{0,0} (@List.map_nil.{0,0})))))) ?_; try with_reducible exact tt); refine hK _ ?_; clear hK K)
 (refine gO (ai @aC (@EntD.dv.eq_1)) ?_; try with_reducible exact tt)
 refine aT.ret ?_
 simp (maxSteps := 2000000) (disch := omega) only [iK, TY, cF, fB, gR, SV.ofD, eE, fM, gK, gL, bT, gM, fP, fN, gN, fK, gI, gH, gJ, CV.exact, CV.lstOf, CV.lenOf, CV.one, D.one, Value.oneCell', CV.toD0, gZ, oWn, hZ, gB, rD0, iB, gE, hJ, reduceCtorEq, reduceIte, Nat.reduceBEq, Nat.reduceEqDiff, Nat.reduceAdd, Nat.reduceMul, Nat.reduceSub, Nat.reduceLT, Nat.reduceLeDiff, Nat.reduceBNe, Int.reduceLE, Int.reduceLT, Int.reduceBEq, Int.reduceBNe, Int.reduceEq, Int.reduceNeg, Int.reduceAdd, Int.reduceSub, Int.reduceToNat, forall_const, aC, retG, aO, aO3]
theorem aGt (s : FoldS) (e : EntD) (k : Nat) (h : FOk k s.p) (hk : k ≤ 20000) (hr : e.b.recs.length ≤ 100000) (hq : e.prod.seen.length ≤ 100000) (ho : aS e = true) (he : e.kind = 2) (hr0 : s.p.rows = []) : xV s e := by
 have hok := ho
 simp only [aS, Bool.and_eq_true, decide_eq_true_eq] at hok
 have hstep : bS s.p e = (if e.off < s.p.start ∨ s.p.fin < e.off then none else some { s.p with start := e.off, rows := rR (yL e.off) s.p.rows }) := by
  unfold bS; simp [ho, he]
 have hF : nxF e.kind = 285 := by simp [nxF, he]
 by_cases hc : e.off < s.p.start ∨ s.p.fin < e.off
 ·exact ⟨_, _, eW s s e _ h.ok h.ok.pid rfl hok.1 hr hq hok.2 h.fin.2 (hF ▸ aLt s e h.ok hc), .inr ⟨by rw [hstep, if_pos hc], ⟨_, rfl⟩, rfl⟩⟩
 ·exact ⟨_, _, eW s (aO3 s e.off) e _ h.ok h.ok.pid rfl hok.1 hr hq hok.2 h.fin.2 (hF ▸ aO4 s e h.ok hr0 (by omega)), .inl ⟨by rw [hstep, if_neg hc, hr0]; show _ = some (PartD.mk _ _ s.p.rows _ _); rw [hr0]; rfl, rfl⟩⟩
theorem aE4 (s : FoldS) (e : EntD) (k : Nat) (h : FOk k s.p) (hk : k ≤ 20000) (hr : e.b.recs.length ≤ 100000) (hq : e.prod.seen.length ≤ 100000) (ho : aS e = true) (he : e.kind = 0) (htx : e.b.txn = false) (ho0 : s.p.opens = []) : xV s e := by
 have hok := ho
 simp only [aS, Bool.and_eq_true, decide_eq_true_eq] at hok
 have hop := h.ok.len8
 have hrow := h.rows
 have hfin := h.fin
 have hsm := h.small hk
 have hbp := (mX (aKi hok.2 he)).1
 have hstep : bS s.p e = jD s.p e.b := by
  unfold bS; simp [ho, he]
 have hF : nxF e.kind = 283 := by simp [nxF, he]
 by_cases hc : (aK s.p.prods e.b).2.2 ≠ 0 ∨ (aK s.p.prods e.b).2.1 = true
 ·exact ⟨_, _, eW s s e _ h.ok h.ok.pid rfl hok.1 hr hq hok.2 h.fin.2 (hF ▸ aFp s e h.ok (by omega) hsm hr hc), .inr ⟨by rw [hstep]; unfold jD; rw [if_pos hc], ⟨_, rfl⟩, rfl⟩⟩
 have hc' : (aK s.p.prods e.b).2.2 = 0 ∧ (aK s.p.prods e.b).2.1 = false := by
  refine ⟨?_, ?_⟩
  ·exact Decidable.not_not.1 (fun h => hc (.inl h))
  ·cases hh : (aK s.p.prods e.b).2.1 with
   | true => exact absurd (.inr hh) hc
   | false => rfl
 have ht2 := aAl s.p.prods e.b s.p.fin hc'.1 hc'.2 (by omega)
 have hob : bU s.p.opens e.b.pid = false := by rw [ho0]; rfl
 have hd : jD s.p e.b = (if 1048576 < s.p.fin + (e.b.recs.length : Int) then none else some { s.p with prods := (aI s.p.prods e.b s.p.fin).1, rows := s.p.rows ++ dE e.b s.p.fin, fin := s.p.fin + (e.b.recs.length : Int) }) := by
  unfold jD; rw [if_neg hc, hob]; simp only []; rw [if_pos htx]
 by_cases hf : 1048576 < s.p.fin + (e.b.recs.length : Int)
 ·exact ⟨_, _, eW s s e _ h.ok h.ok.pid rfl hok.1 hr hq hok.2 h.fin.2 (hF ▸ aFq s e h.ok (by omega) hsm hr hc' hob htx hf), .inr ⟨by rw [hstep, hd, if_pos hf], ⟨_, rfl⟩, rfl⟩⟩
 ·exact ⟨_, _, eW s (aSo (aL2 s (aI s.p.prods e.b s.p.fin).1) e.b) e _ h.ok h.ok.pid rfl hok.1 hr hq hok.2 h.fin.2 (hF ▸ aFr s e (aI s.p.prods e.b s.p.fin).1 h.ok (by omega) hsm hr hc' hob htx (by omega) (by omega) (by rw [← ht2])), .inl ⟨by rw [hstep, hd, if_neg hf]; rfl, rfl⟩⟩
theorem aS4 (s : FoldS) (e : EntD) (k : Nat) (h : FOk k s.p) (hk : k ≤ 20000) (hr : e.b.recs.length ≤ 100000) (hq : e.prod.seen.length ≤ 100000) (hr0 : s.p.rows = []) (ho0 : s.p.opens = []) (ho : aS e = true) (hkd : e.kind = 0 ∧ e.b.txn = false ∨ e.kind = 2 ∨ e.kind = 5 ∨ e.kind = 6) : xV s e := by
 rcases hkd with ⟨he, htx⟩ | he | he | he
 ·exact aE4 s e k h hk hr hq ho he htx ho0
 ·exact aGt s e k h hk hr hq ho he hr0
 ·exact aIz s e k h hk hr hq ho he
 ·exact aE5 s e k h hk hr hq ho he
theorem aCe (p : PartD) (e : EntD) (k : Nat) (h : FOk k p) (hk : k ≤ 20000) (he : SmallEn e) (hr0 : p.rows = []) (ho0 : p.opens = []) (hok : aS e = true) (hkd : e.kind = 0 ∧ e.b.txn = false ∨ e.kind = 2 ∨ e.kind = 5 ∨ e.kind = 6) : bR Tryz.prog 212 [.agg p.dv, .agg e.dv] (.tup [.agg (aJ1 p e), int (aJ0 p e)]) := by
 have hp0 : (aA1 p).p = p := by obtain ⟨a, b, c, d, f⟩ := p; dsimp only at hr0 ho0; subst hr0; subst ho0; rfl
 have h0 : FOk k (aA1 p).p := hp0.symm ▸ h
 obtain ⟨r, t, c2, hcase⟩ := aS4 (aA1 p) e k h0 hk he.recs he.seen rfl rfl hok hkd
 have hrow := h.rows
 have hprod := h.prods
 have c1 := aPa p hr0 ho0 (by omega) (fun q hq => by have := h.seen q hq; omega)
 have hbV : jI e = .agg (e.dv.map CV.d) := rfl
 (refine bR.of_bodyW Tryz.func212 rfl rfl Tryz.ntmps212 Tryz.results212 (by simp) ?_)
 (refine gO (ai @PartD.dv.eq_1 (@EntD.dv.eq_1)) ?_; try with_reducible exact tt)
 (first | refine Wp.sregG ?_ | refine Wp.regG ?_ | (refine Wp.seq ?_; first | refine Wp.sregG ?_ | refine Wp.regG ?_))
 (refine aG.at 1 (fun K hK => ?_); (refine rO (ai @aC (ai @PartD.dv.eq_1 (ai @List.map_cons.{0,0} (@List.map_nil.{0,0})))) ?_; try with_reducible exact tt); refine hK _ ?_; clear hK K)
 (refine aG.call (c1) [] 3 rfl rfl ?_ ?_; (focus ((refine rOs (ai @eN (ai @aC (ai @aQ (ai @PartD.dv.eq_1 (ai @List.map_cons.{0,0} (@List.map_nil.{0,0})))))) ?_; try with_reducible exact tt); done)))
 (refine aG.done (fun K hK => ?_); simp (maxSteps := 2000000) (disch := omega) only [iK, TY, cF, fB, gR, SV.ofD, eE, fM, gK, gL, bT, gM, fP, fN, gN, fK, gI, gH, gJ, CV.exact, CV.lstOf, CV.lenOf, CV.one, D.one, Value.oneCell', CV.toD0, gZ, oWn, hZ, gB, rD0, iB, gE, hJ, reduceCtorEq, reduceIte, Nat.reduceBEq, Nat.reduceEqDiff, Nat.reduceAdd, Nat.reduceMul, Nat.reduceSub, Nat.reduceLT, Nat.reduceLeDiff, Nat.reduceBNe, Int.reduceLE, Int.reduceLT, Int.reduceBEq, Int.reduceBNe, Int.reduceEq, Int.reduceNeg, Int.reduceAdd, Int.reduceSub, Int.reduceToNat, forall_const, aC, cW, mQ, aQ, bZ, mM, List.tail_cons, aA1, List.map_cons, List.map_nil]; refine hK _ ?_; clear hK K)
 (first | refine Wp.sregG ?_ | refine Wp.regG ?_ | (refine Wp.seq ?_; first | refine Wp.sregG ?_ | refine Wp.regG ?_))
 (refine aG.at 2 (fun K hK => ?_); (refine rO (ai @aC (ai @EntD.dv.eq_1 (ai @List.map_cons.{0,0} (@List.map_nil.{0,0})))) ?_; try with_reducible exact tt); refine hK _ ?_; clear hK K)
 (refine aG.call (c2) [(0, 3)] 200 rfl rfl ?_ ?_; (focus (simp (maxSteps := 2000000) (disch := omega) only [iK, TY, cF, fB, gR, SV.ofD, eE, fM, gK, gL, bT, gM, fP, fN, gN, fK, gI, gH, gJ, CV.exact, CV.lstOf, CV.lenOf, CV.one, D.one, Value.oneCell', CV.toD0, gZ, oWn, hZ, gB, rD0, iB, gE, hJ, reduceCtorEq, reduceIte, Nat.reduceBEq, Nat.reduceEqDiff, Nat.reduceAdd, Nat.reduceMul, Nat.reduceSub, Nat.reduceLT, Nat.reduceLeDiff, Nat.reduceBNe, Int.reduceLE, Int.reduceLT, Int.reduceBEq, Int.reduceBNe, Int.reduceEq, Int.reduceNeg, Int.reduceAdd, Int.reduceSub, Int.reduceToNat, forall_const, aK5, atB, aIw, tH, List.nil_append, Cap.sv, mQ, SV.ren, CV.ren, eN, aFt, aOc, aC, gC, qT, mF, hbV, EntD.dv, aA1, List.map_cons, List.map_nil]; done)))
 rcases hcase with ⟨hst, rfl⟩ | ⟨hst, ⟨m, rfl⟩, rfl⟩
 ·have hst : bS p e = some t.p := hp0 ▸ hst
  have htok := (aEl h hst).ok
  (refine aG.done (fun K hK => ?_); simp (maxSteps := 2000000) (disch := omega) only [iK, TY, cF, fB, gR, SV.ofD, eE, fM, gK, gL, bT, gM, fP, fN, gN, fK, gI, gH, gJ, CV.exact, CV.lstOf, CV.lenOf, CV.one, D.one, Value.oneCell', CV.toD0, gZ, oWn, hZ, gB, rD0, iB, gE, hJ, reduceCtorEq, reduceIte, Nat.reduceBEq, Nat.reduceEqDiff, Nat.reduceAdd, Nat.reduceMul, Nat.reduceSub, Nat.reduceLT, Nat.reduceLeDiff, Nat.reduceBNe, Int.reduceLE, Int.reduceLT, Int.reduceBEq, Int.reduceBNe, Int.reduceEq, Int.reduceNeg, Int.reduceAdd, Int.reduceSub, Int.reduceToNat, forall_const, aC, cW, mQ, eN, SV.ren, CV.ren, gC, qT, mF, List.map_cons, List.map_nil]; refine hK _ ?_; clear hK K)
  (refine Wp.sreg (fun K hK => ?_); (refine bL ?_; try with_reducible exact tt); refine hK _ ?_; clear hK K)
  refine Wp.condG (fun K hK hF => ?_)
  (refine bL ?_; try with_reducible exact tt)
  refine hF ?_
  clear hK hF K
  refine Wp.skip ?_
  refine Wp.weakE (aPd t 3 (by decide) _ htok (by (refine bL ?_; try with_reducible exact tt)) (by (refine bL ?_; try with_reducible exact tt)) (by (refine bL ?_; try with_reducible exact tt)) (fun q h1 h2 => by
   have hq2 : q = 1 ∨ q = 2 ∨ q = 3 ∨ q = 4 ∨ q = 5 ∨ q = 6 ∨ q = 7 ∨ q = 8 := by omega
   rcases hq2 with rfl | rfl | rfl | rfl | rfl | rfl | rfl | rfl <;> ((refine bL ?_; try with_reducible exact tt)))) ?_
  rintro H2 ⟨p1, p2⟩
  simp only [PartD.dv, List.map_cons, List.map_nil] at p1
  have p0 : H2 2 = some (.cells [.d (int 0), .d (int 0), hP, hP, hP]) := (p2 2 (by decide) (by decide)).trans (by simp (maxSteps := 2000000) (disch := omega) only [iK, TY, cF, fB, gR, SV.ofD, eE, fM, gK, gL, bT, gM, fP, fN, gN, fK, gI, gH, gJ, CV.exact, CV.lstOf, CV.lenOf, CV.one, D.one, Value.oneCell', CV.toD0, gZ, oWn, hZ, gB, rD0, iB, gE, hJ, reduceCtorEq, reduceIte, Nat.reduceBEq, Nat.reduceEqDiff, Nat.reduceAdd, Nat.reduceMul, Nat.reduceSub, Nat.reduceLT, Nat.reduceLeDiff, Nat.reduceBNe, Int.reduceLE, Int.reduceLT, Int.reduceBEq, Int.reduceBNe, Int.reduceEq, Int.reduceNeg, Int.reduceAdd, Int.reduceSub, Int.reduceToNat, forall_const, cW, mQ, eN, SV.ren, CV.ren, gC, qT, mF, List.map_cons, List.map_nil])
  dsimp only
  (refine gO (ai p1 (p0)) ?_; try with_reducible exact tt)
  (refine rO (ai p0 (@PartD.dv.eq_1)) ?_; try with_reducible exact tt)
  unfold aJ1 aJ0
  rw [hst]
  exact ⟨_, rfl, fun _ _ h => h⟩
 ·have hst : bS p e = none := hp0 ▸ hst
  have c3 := xH (str m) 70
  (refine aG.done (fun K hK => ?_); simp (maxSteps := 2000000) (disch := omega) only [iK, TY, cF, fB, gR, SV.ofD, eE, fM, gK, gL, bT, gM, fP, fN, gN, fK, gI, gH, gJ, CV.exact, CV.lstOf, CV.lenOf, CV.one, D.one, Value.oneCell', CV.toD0, gZ, oWn, hZ, gB, rD0, iB, gE, hJ, reduceCtorEq, reduceIte, Nat.reduceBEq, Nat.reduceEqDiff, Nat.reduceAdd, Nat.reduceMul, Nat.reduceSub, Nat.reduceLT, Nat.reduceLeDiff, Nat.reduceBNe, Int.reduceLE, Int.reduceLT, Int.reduceBEq, Int.reduceBNe, Int.reduceEq, Int.reduceNeg, Int.reduceAdd, Int.reduceSub, Int.reduceToNat, forall_const, aC, cW, mQ, eN, SV.ren, CV.ren, gC, qT, mF, List.map_cons, List.map_nil]; refine hK _ ?_; clear hK K)
  (refine dD ?_; try with_reducible exact tt)
  (refine bL ?_; try with_reducible exact tt)
  unfold aJ1 aJ0
  rw [hst]
  exact ⟨_, rfl, sX.tup (.cons (.agg (.cons (.refl _) (.cons (.refl _) (.cons (.nil 5) (.cons (.nil 3) (.cons (.nil 4) .nil)))))) (.cons (.refl _) .nil))⟩
end Go.Proofs.YtpklhnpchhaccaaGreatDoor
