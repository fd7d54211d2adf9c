/- Layer 14's statements: BufferGaps. -/
import Derived.Test.YtpklhnpchhaccaaGreatDoorBfMg
import Derived.Test.YtpklhnpchhaccaaGreatDoorBfMh
namespace Go.Proofs.YtpklhnpchhaccaaGreatDoor
open Go Go.RowKit
set_option maxHeartbeats 16000000
set_option maxRecDepth 100000
set_option linter.unusedVariables false
set_option linter.unusedSimpArgs false
/-- How many an lX decides, by what waits ahead of it. -/
def aRe (W : List BatD) (e : EntD) : Int := if e.kind = 5 then 1 else if e.kind = 0 then (e.b.recs.length : Int) else if e.kind = 3 then (e.b.recs.length : Int) else if e.kind = 4 then - (bY W : Nat) else 0
def gA (l : List EntD) : Nat → Int
 | 0 => 0
 | k + 1 => match l[k]? with
  | some e => gA l k + aRe (jF (l.take k) e.b.pid) e
  | none => gA l k
def wsP (l : List EntD) : Nat → Nat
 | 0 => 0
 | j + 1 => wsP l j + bY (jF l ((j + 1 : Nat) : Int))
theorem aK6 {l : List EntD} {k : Nat} {e : EntD} (h : l[k]? = some e) : gA l (k + 1) = gA l k + aRe (jF (l.take k) e.b.pid) e := by simp only [gA, h]
theorem aFk {l : List EntD} : ∀ k, k ≤ l.length → ∀ s, dJ ref0 (l.take k) = some s → s.p.fin + (jB s.w : Nat) = gA l k
 | 0, _, s, h => by rw [List.take_zero] at h; cases h; rfl
 | k + 1, hk, s, h => by
  have hkl : k < l.length := by omega
  cases hq : dJ ref0 (l.take k) with
  | none => rw [List.take_succ_eq_append_getElem hkl, qA, hq] at h; cases h
  | some v =>
   have ih := aFk k (by omega) v hq
   rw [rC hkl hq] at h
   have h1 := aFl h
   rw [aK6 (List.getElem?_eq_getElem hkl), ← ih, h1]
   congr 1
   have := aAs hq l[k].b.pid
   unfold aO0 aRe
   rw [this]
theorem aQg (x : Int × List BatD) (w : Wts) (pid : Int) : cD (x :: w) pid = if x.1 = pid then x.2 else cD w pid := by
 unfold cD wI
 rw [List.findIdx_cons]
 by_cases h : x.1 = pid
 ·rw [if_pos h]; simp [h]
 ·rw [if_neg h]
  have : (x.1 == pid) = false := by simpa using h
  rw [this]
  simp
theorem aQo : ∀ (w : Wts), (w.map (·.1)).Nodup → fO w → jB w = bY (cD w 1) + bY (cD w 2) + bY (cD w 3) + bY (cD w 4) + bY (cD w 5) + bY (cD w 6) + bY (cD w 7) + bY (cD w 8)
 | [], _, _ => rfl
 | x :: w, hn, hp => by
  rw [List.map_cons, List.nodup_cons] at hn
  have ih := aQo w hn.2 (fun y hy => hp y (List.mem_cons_of_mem _ hy))
  have hx := hp x (List.mem_cons_self ..)
  have h0 : cD w x.1 = [] := xS (fun y hy e => hn.1 (List.mem_map.2 ⟨y, hy, e⟩))
  have e1 : jB (x :: w) = bY x.2 + jB w := by simp [jB]
  rw [e1, ih]
  simp only [aQg]
  have h8 : x.1 = 1 ∨ x.1 = 2 ∨ x.1 = 3 ∨ x.1 = 4 ∨ x.1 = 5 ∨ x.1 = 6 ∨ x.1 = 7 ∨ x.1 = 8 := by omega
  have z : bY ([] : List BatD) = 0 := rfl
  rcases h8 with h | h | h | h | h | h | h | h <;> (rw [h] at h0 ⊢; simp only [h0, z]; simp; omega)
theorem aXa {l : List EntD} {s : RefS} (h : dJ ref0 l = some s) : wsP l 8 = jB s.w := by
 have hI := pY l 0 ref0 s vF h
 rw [aQo s.w hI.ow.nd hI.ow.pid]
 simp only [aAs h]
 simp [wsP]
theorem aQn {l : List EntD} : ∀ (i j : Nat), i ≤ j → wsP l i ≤ wsP l j := by
 intro i j h
 induction h with
 | refl => exact Nat.le_refl _
 | step h ih => simp only [wsP]; omega
theorem aAj : ∀ (W : List BatD) (k : Nat) (h : k < W.length), bY (W.take (k + 1)) = bY (W.take k) + W[k].recs.length := by
 intro W k h
 rw [List.take_succ_eq_append_getElem h, rK]; simp [bY]
theorem kT (W : List BatD) (k : Nat) : bY (W.take k) ≤ bY W := by
 have h := rK (W.take k) (W.drop k)
 rw [List.take_append_drop] at h
 omega
theorem aSz {l : List EntD} {s : RefS} (h : dJ ref0 l = some s) (pid : Int) : bY (jF l pid) ≤ jB s.w := by
 have := aD0 s.w pid
 rw [aAs h] at this
 omega
theorem yH (l : List EntD) (s : List SideD) (hk : ∀ e ∈ l, -128 ≤ e.kind ∧ e.kind ≤ 127) (hks : ∀ x ∈ s, x.l.length ≤ maxLen ∧ ∀ e ∈ x.l, -128 ≤ e.kind ∧ e.kind ≤ 127) :
  bR Tryz.prog 7 [.lst 18 (l.map EntD.dv), .lst 2 (s.map SideD.dv)] (iF true) := by
 have cw := aHn
 have c0 := aGb l s
 (refine bR.of_body Tryz.func7 rfl rfl Tryz.ntmps7 Tryz.results7 (by simp) ?_)
 cases hg : kQ l s with
 | true =>
  rw [hg] at c0
  (refine dD ?_)
  (refine bL ?_; try with_reducible exact tt)
 | false =>
 rw [hg] at c0
 obtain ⟨hl, hs, hsl, hss⟩ := aIj hg
 have hsm : ∀ e ∈ l, SmallEn e := fun e he => ⟨hk e he, by have := (hs e he).1; omega, by have := (hs e he).2; omega⟩
 have hsx : ∀ x ∈ s, ∀ y ∈ x.l, SmallEn y := fun x hx y hy => ⟨(hks x hx).2 y hy, by have := ((hss x hx).2 y hy).1; omega, by have := ((hss x hx).2 y hy).2; omega⟩
 have c1 := pO l s (by omega) hsm (by omega) hsx
 have h14 := aSp l s
 cases hfo : sH l s with
 | none =>
  rw [hfo] at h14
  have he : e14 l s = 70 := (congrArg Prod.snd h14).symm
  rw [he] at c1
  generalize a14 l s = p at *
  simp only [PartD.dv] at c1
  (refine dD ?_)
  (refine bL ?_; try with_reducible exact tt)
 | some t =>
 rw [hfo] at h14
 have he : e14 l s = 0 := (congrArg Prod.snd h14).symm
 have ha : a14 l s = t.p := (congrArg Prod.fst h14).symm
 rw [he, ha] at c1
 obtain ⟨u, hlog, hI, hsr, _, hM, hB, hrl, hgap⟩ := aM7 hfo hl hsl
 have hfin := (sP s s u t 0 hI.f.fin hsr).2.2.1
 have hfb := hM.fin
 clear h14 he ha hfo hM hB hsr
 generalize t.p = p at *
 have hpre : ∀ k, k ≤ l.length → ∃ v, dJ ref0 (l.take k) = some v := fun k hk => by
  cases hq : dJ ref0 (l.take k) with
  | none => rw [aMk hq] at hlog; cases hlog
  | some v => exact ⟨v, rfl⟩
 have hcb : ∀ k, k ≤ l.length → ∃ v, dJ ref0 (l.take k) = some v ∧ 0 ≤ v.p.fin ∧ v.p.fin + (jB v.w : Nat) = gA l k ∧ gA l k ≤ 4 * (k : Int) := fun k hk => by
  obtain ⟨v, hv⟩ := hpre k hk
  have h1 := aFk k hk v hv
  have h2 := aE2 (l.take k) ref0 v hv
  have h3 := (pY (l.take k) 0 ref0 v vF hv).f.fin
  have e : (ref0.p.fin : Int) + (jB ref0.w : Nat) = 0 := rfl
  rw [List.length_take, Nat.min_eq_left hk] at h2
  exact ⟨v, hv, h3.1, h1, by omega⟩
 simp only [PartD.dv] at c1
 (refine gO (@PartD.dv.eq_1) ?_)
 refine Wp.loop (fun i : Nat => ⟨lJ [(0, .c (.d (.lst 18 (l.map EntD.dv)))), (5, .c (.own 0 0)), (7, vi .i64 (gA l i)), (8, vi .i64 i)], bO [(0, .cells (p.dv.map .d))], 1, 153, 0⟩) (fun i => i ≤ l.length) (fun i => l.length - i) 0 (Nat.zero_le _) ?_ ?_
 ·refine aF.keep rfl rfl ?_
  simp (maxSteps := 2000000) (disch := omega) only [iK, TY, cF, fB, gR, SV.ofD, eE, fM, gK, gL, bT, gM, fP, fN, gN, fK, gI, gH, gJ, CV.exact, CV.lstOf, CV.lenOf, CV.one, D.one, Value.oneCell', CV.toD0, gZ, oWn, hZ, gB, rD0, iB, gE, hJ, reduceCtorEq, reduceIte, Nat.reduceBEq, Nat.reduceEqDiff, Nat.reduceAdd, Nat.reduceMul, Nat.reduceSub, Nat.reduceLT, Nat.reduceLeDiff, Nat.reduceBNe, Int.reduceLE, Int.reduceLT, Int.reduceBEq, Int.reduceBNe, Int.reduceEq, Int.reduceNeg, Int.reduceAdd, Int.reduceSub, Int.reduceToNat, forall_const, PartD.dv, gA, List.map_nil, List.map_cons]
 intro i hi
 by_cases hil : i < l.length
 ·have d1 : decide ((i : Int) < (l.length : Int)) = true := decide_eq_true (by omega)
  have hge : l[i]? = some l[i] := List.getElem?_eq_getElem hil
  have hwi : IntKind.i64.wrap ((i : Int) + 1) = ((i + 1 : Nat) : Int) := by rw [aW (by omega)]; rfl
  have hci := aK6 hge
  obtain ⟨v, hv, hv0, hvc, hv4⟩ := hcb i hi
  obtain ⟨_, _, _, hvc1, hv41⟩ := hcb (i + 1) hil
  have hwl := aSz hv l[i].b.pid
  have hsme := hsm _ (List.getElem_mem hil)
  have hre := (hs _ (List.getElem_mem hil)).1
  have c2 := pP (l.take i) l[i].b.pid (by rw [List.length_take]; omega) (fun e he => (hsm e (List.mem_of_mem_take he)).recs)
  rw [List.map_take] at c2
  have hWl := wA l[i].b.pid (l.take i)
  rw [List.length_take] at hWl
  have hmin : (i : Nat) ≤ l.length := hi
  generalize l[i] = e at *
  generalize jF (l.take i) e.b.pid = W at *
  unfold aRe at hci
  by_cases k5 : e.kind = 5
  ·have e5 : (e.kind == 5) = true := by simpa using k5
   rw [if_pos k5] at hci
   have hw7 : IntKind.i64.wrap (gA l i + 1) = gA l (i + 1) := by rw [hci]; exact aW (by omega)
   (refine gO (ai d1 (ai hge (ai e5 (ai hwi (ai hw7 (@EntD.dv.eq_1)))))) ?_)
   refine ⟨i + 1, hil, by omega, aF.keep rfl rfl ?_⟩
   (refine rO (ai @PartD.dv.eq_1 (ai @List.map_nil.{0,0} (@List.map_cons.{0,0}))) ?_; try with_reducible exact tt)
  have e5 : (e.kind == 5) = false := by simpa using k5
  rw [if_neg k5] at hci
  by_cases k0 : e.kind = 0
  ·have e0 : (e.kind == 0) = true := by simpa using k0
   rw [if_pos k0] at hci
   have hw7 : IntKind.i64.wrap (gA l i + (e.b.recs.length : Int)) = gA l (i + 1) := by rw [hci]; exact aW (by omega)
   (refine gO (ai d1 (ai hge (ai e5 (ai e0 (ai hwi (ai hw7 (@EntD.dv.eq_1))))))) ?_)
   refine ⟨i + 1, hil, by omega, aF.keep rfl rfl ?_⟩
   (refine rO (ai @PartD.dv.eq_1 (ai @List.map_nil.{0,0} (@List.map_cons.{0,0}))) ?_; try with_reducible exact tt)
  have e0 : (e.kind == 0) = false := by simpa using k0
  rw [if_neg k0] at hci
  by_cases k3 : e.kind = 3
  ·have e3 : (e.kind == 3) = true := by simpa using k3
   rw [if_pos k3] at hci
   have hw7 : IntKind.i64.wrap (gA l i + (e.b.recs.length : Int)) = gA l (i + 1) := by rw [hci]; exact aW (by omega)
   (refine gO (ai d1 (ai hge (ai e5 (ai e0 (ai e3 (ai hwi (ai hw7 (@EntD.dv.eq_1)))))))) ?_)
   refine ⟨i + 1, hil, by omega, aF.keep rfl rfl ?_⟩
   (refine rO (ai @PartD.dv.eq_1 (ai @List.map_nil.{0,0} (@List.map_cons.{0,0}))) ?_; try with_reducible exact tt)
  have e3 : (e.kind == 3) = false := by simpa using k3
  rw [if_neg k3] at hci
  by_cases k4 : e.kind = 4
  rotate_left
  ·have e4 : (e.kind == 4) = false := by simpa using k4
   rw [if_neg k4, Int.add_zero] at hci
   (refine gO (ai d1 (ai hge (ai e5 (ai e0 (ai e3 (ai e4 (ai hwi (@EntD.dv.eq_1)))))))) ?_)
   refine ⟨i + 1, hil, by omega, aF.keep rfl rfl ?_⟩
   (refine rO (ai hci (ai @PartD.dv.eq_1 (ai @List.map_nil.{0,0} (@List.map_cons.{0,0})))) ?_; try with_reducible exact tt)
  have e4 : (e.kind == 4) = true := by simpa using k4
  rw [if_pos k4] at hci
  (refine gO (ai d1 (ai hge (ai e5 (ai e0 (ai e3 (ai e4 (@EntD.dv.eq_1))))))) ?_)
  refine Wp.loop (fun k : Nat => ⟨lJ [(0, .c (.d (.lst 18 (l.map EntD.dv)))), (5, .c (.own 0 0)), (7, vi .i64 (gA l i - (bY (W.take k) : Nat))), (8, vi .i64 i), (9, vi .i64 k)], bO [(0, .cells (p.dv.map .d))], 1, 153, 0⟩) (fun k => k ≤ W.length) (fun k => W.length - k) 0 (Nat.zero_le _) ?_ ?_
  ·have z : bY ([] : List BatD) = 0 := rfl
   have z2 : gA l i - 0 = gA l i := by omega
   refine aF.keep rfl rfl ?_
   (refine rO (ai z (ai z2 (ai @PartD.dv.eq_1 (ai @List.map_nil.{0,0} (@List.map_cons.{0,0}))))) ?_; try with_reducible exact tt)
  intro k hkw
  have hst := kT W k
  by_cases hkl : k < W.length
  ·have d2 : decide ((k : Int) < (W.length : Int)) = true := decide_eq_true (by omega)
   have hgw : W[k]? = some W[k] := List.getElem?_eq_getElem hkl
   have hwk : IntKind.i64.wrap ((k : Int) + 1) = ((k + 1 : Nat) : Int) := by rw [aW (by omega)]; rfl
   have hs1 := aAj W k hkl
   have hs2 := kT W (k + 1)
   generalize W[k] = b at *
   have hw7 : IntKind.i64.wrap (gA l i - (bY (W.take k) : Nat) - (b.recs.length : Int)) = gA l i - (bY (W.take (k + 1)) : Nat) := by rw [aW (by omega)]; omega
   (refine gO (ai hge (ai hmin (ai d2 (ai hgw (ai hwk (ai hw7 (ai @EntD.dv.eq_1 (@BatD.dv.eq_1)))))))) ?_)
   refine ⟨k + 1, hkl, by omega, aF.keep rfl rfl ?_⟩
   (refine rO (ai @PartD.dv.eq_1 (ai @List.map_nil.{0,0} (@List.map_cons.{0,0}))) ?_; try with_reducible exact tt)
  ·have hke : k = W.length := by omega
   subst hke
   have d2 : decide ((W.length : Int) < (W.length : Int)) = false := by simp
   have hce : gA l i - (bY (W.take W.length) : Nat) = gA l (i + 1) := by rw [List.take_length, hci]; omega
   (refine gO (ai hge (ai hmin (ai d2 (ai hwi (@EntD.dv.eq_1))))) ?_)
   refine ⟨i + 1, hil, by omega, aF.keep rfl rfl ?_⟩
   (refine rO (ai hce (ai @PartD.dv.eq_1 (ai @List.map_nil.{0,0} (@List.map_cons.{0,0})))) ?_; try with_reducible exact tt)
 have hie : i = l.length := by omega
 subst hie
 obtain ⟨v, hv, hv0, hvc, hv4⟩ := hcb l.length (Nat.le_refl _)
 rw [List.take_length] at hv
 have hvu : v = u := by rw [hlog] at hv; cases hv; rfl
 subst hvu
 have hw8 := aXa hlog
 have d1 : decide ((l.length : Int) < (l.length : Int)) = false := by simp
 (refine gO (d1) ?_)
 refine Wp.loop (fun j : Nat => ⟨lJ [(0, .c (.d (.lst 18 (l.map EntD.dv)))), (5, .c (.own 0 0)), (7, vi .i64 (gA l l.length - (wsP l j : Nat))), (10, vi .i64 ((j : Int) + 1))], bO [(0, .cells (p.dv.map .d))], 1, 153, 0⟩) (fun j => j ≤ 8) (fun j => 8 - j) 0 (Nat.zero_le _) ?_ ?_
 ·have z2 : gA l l.length - 0 = gA l l.length := by omega
  refine aF.keep rfl rfl ?_
  simp (maxSteps := 2000000) (disch := omega) only [iK, TY, cF, fB, gR, SV.ofD, eE, fM, gK, gL, bT, gM, fP, fN, gN, fK, gI, gH, gJ, CV.exact, CV.lstOf, CV.lenOf, CV.one, D.one, Value.oneCell', CV.toD0, gZ, oWn, hZ, gB, rD0, iB, gE, hJ, reduceCtorEq, reduceIte, Nat.reduceBEq, Nat.reduceEqDiff, Nat.reduceAdd, Nat.reduceMul, Nat.reduceSub, Nat.reduceLT, Nat.reduceLeDiff, Nat.reduceBNe, Int.reduceLE, Int.reduceLT, Int.reduceBEq, Int.reduceBNe, Int.reduceEq, Int.reduceNeg, Int.reduceAdd, Int.reduceSub, Int.reduceToNat, forall_const, wsP, z2, PartD.dv, List.map_nil, List.map_cons]
 intro j hj
 have hwj := aQn (l := l) j 8 hj
 by_cases hj8 : j < 8
 ·have d2 : decide ((j : Int) + 1 ≤ 8) = true := decide_eq_true (by omega)
  have hwj2 : IntKind.i64.wrap ((j : Int) + 1 + 1) = (j : Int) + 1 + 1 := aW (by omega)
  have hws : wsP l (j + 1) = wsP l j + bY (jF l ((j : Int) + 1)) := rfl
  have hwj1 := aQn (l := l) (j + 1) 8 hj8
  have c2 := pP l ((j : Int) + 1) (by omega) (fun e he => (hsm e he).recs)
  have hWl := wA ((j : Int) + 1) l
  generalize jF l ((j : Int) + 1) = W at *
  (refine gO (d2) ?_)
  refine Wp.loop (fun k : Nat => ⟨lJ [(0, .c (.d (.lst 18 (l.map EntD.dv)))), (5, .c (.own 0 0)), (7, vi .i64 (gA l l.length - (wsP l j : Nat) - (bY (W.take k) : Nat))), (10, vi .i64 ((j : Int) + 1)), (11, .c (.d (.lst 5 (W.map BatD.dv)))), (12, vi .i64 k)], bO [(0, .cells (p.dv.map .d))], 1, 153, 0⟩) (fun k => k ≤ W.length) (fun k => W.length - k) 0 (Nat.zero_le _) ?_ ?_
  ·have z : bY ([] : List BatD) = 0 := rfl
   have z2 : gA l l.length - (wsP l j : Nat) - 0 = gA l l.length - (wsP l j : Nat) := by omega
   refine aF.keep rfl rfl ?_
   (refine rO (ai z (ai z2 (ai @PartD.dv.eq_1 (ai @List.map_nil.{0,0} (@List.map_cons.{0,0}))))) ?_; try with_reducible exact tt)
  intro k hkw
  have hst := kT W k
  by_cases hkl : k < W.length
  ·have d3 : decide ((k : Int) < (W.length : Int)) = true := decide_eq_true (by omega)
   have hgw : W[k]? = some W[k] := List.getElem?_eq_getElem hkl
   have hwk : IntKind.i64.wrap ((k : Int) + 1) = ((k + 1 : Nat) : Int) := by rw [aW (by omega)]; rfl
   have hs1 := aAj W k hkl
   have hs2 := kT W (k + 1)
   generalize W[k] = b at *
   have hw7 : IntKind.i64.wrap (gA l l.length - (wsP l j : Nat) - (bY (W.take k) : Nat) - (b.recs.length : Int)) = gA l l.length - (wsP l j : Nat) - (bY (W.take (k + 1)) : Nat) := by rw [aW (by omega)]; omega
   (refine gO (ai d3 (ai hgw (ai hwk (ai hw7 (@BatD.dv.eq_1))))) ?_)
   refine ⟨k + 1, hkl, by omega, aF.keep rfl rfl ?_⟩
   (refine rO (ai @PartD.dv.eq_1 (ai @List.map_nil.{0,0} (@List.map_cons.{0,0}))) ?_; try with_reducible exact tt)
  ·have hke : k = W.length := by omega
   subst hke
   have d3 : decide ((W.length : Int) < (W.length : Int)) = false := by simp
   have hce : gA l l.length - (wsP l j : Nat) - (bY (W.take W.length) : Nat) = gA l l.length - (wsP l (j + 1) : Nat) := by rw [List.take_length, hws]; omega
   (refine gO (ai d3 (hwj2)) ?_)
   refine ⟨j + 1, hj8, by omega, aF.keep rfl rfl ?_⟩
   (refine rO (ai hce (ai @PartD.dv.eq_1 (ai @List.map_nil.{0,0} (@List.map_cons.{0,0})))) ?_; try with_reducible exact tt)
 have hje : j = 8 := by omega
 subst hje
 have hn : gA l l.length - (wsP l 8 : Nat) = p.fin := by rw [hw8, hfin]; omega
 have hgl := hgap.len
 have d2 : decide (((8 : Nat) : Int) + 1 ≤ 8) = false := decide_eq_false (by omega)
 have hb1 : (p.fin != p.fin) = false := by simp
 have hwd : IntKind.i64.wrap (p.fin - p.start) = (p.rows.length : Int) := by rw [aW (by omega)]; omega
 have hb2 : ((p.rows.length : Int) != (p.rows.length : Int)) = false := by simp
 rw [hn]
 (refine gO (ai d2 (ai hb1 (ai hwd (ai hb2 (ai @PartD.dv.eq_1 (ai @List.map_nil.{0,0} (@List.map_cons.{0,0}))))))) ?_)
 refine Wp.loop (fun i : Nat => ⟨lJ [(5, .c (.own 0 0)), (13, vi .i64 i)], bO [(0, .cells (p.dv.map .d))], 1, 153, 0⟩) (fun i => i ≤ p.rows.length) (fun i => p.rows.length - i) 0 (Nat.zero_le _) ?_ ?_
 ·refine aF.keep rfl rfl ?_
  (refine rO (ai @PartD.dv.eq_1 (ai @List.map_nil.{0,0} (@List.map_cons.{0,0}))) ?_; try with_reducible exact tt)
 intro i hi
 by_cases hil : i < p.rows.length
 ·have d3 : decide ((i : Int) < (p.rows.length : Int)) = true := decide_eq_true (by omega)
  have hge : p.rows[i]? = some p.rows[i] := List.getElem?_eq_getElem hil
  have hwi : IntKind.i64.wrap ((i : Int) + 1) = ((i + 1 : Nat) : Int) := by rw [aW (by omega)]; rfl
  have hoff := hgap.at_ i _ hge
  generalize p.rows[i] = r at *
  have hwo : IntKind.i64.wrap (p.start + (i : Int)) = r.off := by rw [aW (by omega)]; exact hoff.symm
  have hb3 : (r.off != r.off) = false := by simp
  (refine gO (ai d3 (ai hge (ai hwo (ai hb3 (ai hwi (ai @RowD.dv.eq_1 (ai @PartD.dv.eq_1 (ai @List.map_nil.{0,0} (@List.map_cons.{0,0}))))))))) ?_)
  refine ⟨i + 1, hil, by omega, aF.keep rfl rfl ?_⟩
  (refine rO (ai @PartD.dv.eq_1 (ai @List.map_nil.{0,0} (@List.map_cons.{0,0}))) ?_; try with_reducible exact tt)
 ·have hie : i = p.rows.length := by omega
  subst hie
  have d3 : decide ((p.rows.length : Int) < (p.rows.length : Int)) = false := by simp
  (refine gO (ai d3 (ai @PartD.dv.eq_1 (ai @List.map_nil.{0,0} (@List.map_cons.{0,0})))) ?_)
  (refine bL ?_; try with_reducible exact tt)
end Go.Proofs.YtpklhnpchhaccaaGreatDoor
