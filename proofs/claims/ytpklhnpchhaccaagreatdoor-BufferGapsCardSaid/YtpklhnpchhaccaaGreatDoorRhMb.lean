/- The abstract machine (RhF, RhG, RhH, RhI, RhJ). -/
import Derived.Test.YtpklhnpchhaccaaGreatDoorRhMa
import Derived.Test.YtpklhnpchhaccaaGreatDoorCpMc
namespace Go.Proofs.YtpklhnpchhaccaaGreatDoor
open Go Go.RowKit
set_option maxHeartbeats 16000000
set_option maxRecDepth 100000
set_option linter.unusedVariables false
set_option linter.unusedSimpArgs false
def iW (p : PartD) (e : EntD) : Bool := (bH p.prods e.b.pid).2 && (decide (e.b.epoch < (bH p.prods e.b.pid).1.epoch) || (e.b.epoch == (bH p.prods e.b.pid).1.epoch && decide (e.next < (bH p.prods e.b.pid).1.next)))
def wO (p : PartD) (e : EntD) : PartD := { p with prods := dU p.prods ⟨e.b.pid, e.b.epoch, e.next, []⟩ }
def nB (s : RefS) (e : EntD) : Bool × RefS := if iW s.p e then (false, s) else (true, ⟨wO s.p e, (s.away e.b.pid).w, (s.away e.b.pid).v⟩)
def mD (s : RefS) (e : EntD) : Bool × RefS :=
 if e.kind = 0 then (match iP s.p e.b with
  | some q => (true, ⟨q, s.w, s.v⟩)
  | none => (false, s))
 else if e.kind = 3 then oK s e
 else if e.kind = 4 then nB s e
 else match jY s.p e with
  | some q => (true, ⟨q, s.w, s.v⟩)
  | none => (false, s)
structure SideD where
 pid : Int
 l : List EntD
 deriving DecidableEq
abbrev SideD.dv (s : SideD) : List D := [int s.pid, .lst 18 (s.l.map EntD.dv)]
def rI (s : SideD) (x : EntD) : Bool := !aS x || (x.kind != 0 || (!x.b.txn || (x.b.pid != s.pid || match s.l with
 | [] => false
 | y :: _ => x.b.epoch != y.b.epoch)))
def lO (s : SideD) (p : PartD) (x : EntD) : Option PartD := if rI s x then none else aEp p x.b
def dK (s : SideD) : PartD → List EntD → Bool × PartD
 | p, [] => (true, p)
 | p, x :: l => match lO s p x with
  | none => (false, p)
  | some q => dK s q l
theorem vW (s : SideD) : ∀ (l : List EntD) (p : PartD) (r : List EntD), dK s p (l ++ r) = if (dK s p l).1 then dK s (dK s p l).2 r else dK s p l
 | [], p, r => rfl
 | x :: l, p, r => by
  show (match lO s p x with | none => (false, p) | some q => dK s q (l ++ r)) = _
  have e : dK s p (x :: l) = match lO s p x with | none => (false, p) | some q => dK s q l := rfl
  rw [e]
  cases lO s p x with
  | none => rfl
  | some q => exact vW s l q r
theorem aJm {s : SideD} {p : PartD} {l : List EntD} {k : Nat} (hk : k < l.length) (h : (dK s p (l.take k)).1 = true) : dK s p (l.take (k + 1)) = match lO s (dK s p (l.take k)).2 l[k] with
  | none => (false, (dK s p (l.take k)).2)
  | some q => (true, q) := by
 rw [List.take_succ_eq_append_getElem hk, vW, if_pos h]
 rfl
def nW (s : RefS) (x : SideD) : Bool × RefS :=
 if x.l.length = 0 ∨ 8 < x.l.length then (false, s) else ((dK x s.p x.l).1, ⟨(dK x s.p x.l).2, s.w, s.v⟩)
def aAr (p : PartD) (x : Int × List BatD) : Bool := bU p.opens x.1 && match p.opens[aY p.opens x.1]? with
 | some o => decide (x.2.length < o.bats.length) && decide (x.2 = o.bats.take x.2.length)
 | none => false
def bA (s : RefS) (e : EntD) : Option RefS := if aS e = false then none else if (mD s e).1 = false then none else if 1048576 < (mD s e).2.p.fin then none else some (mD s e).2
def dJ : RefS → List EntD → Option RefS
 | s, [] => some s
 | s, e :: l => match bA s e with
  | none => none
  | some t => dJ t l
theorem qA : ∀ (l : List EntD) (s : RefS) (r : List EntD), dJ s (l ++ r) = match dJ s l with
  | none => none
  | some t => dJ t r
 | [], s, r => rfl
 | e :: l, s, r => by
  show (match bA s e with | none => none | some t => dJ t (l ++ r)) = match (match bA s e with | none => none | some t => dJ t l) with | none => none | some t => dJ t r
  cases bA s e with
  | none => rfl
  | some t => exact qA l t r
def aN (l : List SideD) (k : Nat) : Bool := match k, l[k]?, l[k - 1]? with
 | 0, _, _ => true
 | _ + 1, some x, some y => decide (y.pid < x.pid)
 | _, _, _ => false
def qM (all : List SideD) : RefS → Nat → List SideD → Option RefS
 | s, _, [] => some s
 | s, k, x :: l => if aN all k = false then none else if (nW s x).1 = false then none else qM all (nW s x).2 (k + 1) l
def ref0 : RefS := ⟨pZ, [], 0⟩
def sH (main : List EntD) (sides : List SideD) : Option RefS := match dJ ref0 main with
 | none => none
 | some s => match qM sides s 0 sides with
  | none => none
  | some t => if t.w.all (aAr t.p) then some t else none
theorem kE {e : EntD} (h : aS e = true) : e.b.recs.length ≤ 4 ∧ e.prod.seen.length ≤ 3 := by
 unfold aS at h
 simp only [Bool.and_eq_true, decide_eq_true_eq] at h
 obtain ⟨⟨h1, h2⟩, h3⟩ := h
 obtain ⟨k, b, yes, next, off, row, prod⟩ := e
 have hk7 : k = 0 ∨ k = 1 ∨ k = 2 ∨ k = 3 ∨ k = 4 ∨ k = 5 ∨ k = 6 := by simp only at h1 h2; omega
 have hz : ∀ n : Int, (zE n).b.recs = [] ∧ (zE n).prod.seen = [] := fun n => ⟨rfl, rfl⟩
 rcases hk7 with rfl | rfl | rfl | rfl | rfl | rfl | rfl
 ·simp only [vI, if_true, Bool.and_eq_true, decide_eq_true_eq] at h3
  have h4 := congrArg (fun x : EntD => x.prod.seen) h3.2
  refine ⟨(mX h3.1).2, ?_⟩
  dsimp only at h4 ⊢; rw [h4]; exact Nat.zero_le _
 ·have h3 : (fL b.pid b.epoch && decide ((⟨1, ⟨0, 0, b.seq, b.txn, b.recs⟩, false, next, off, row, prod⟩ : EntD) = zE 1)) = true := h3
  simp only [Bool.and_eq_true, decide_eq_true_eq] at h3
  have h4 := congrArg (fun x : EntD => x.prod.seen) h3.2
  have h5 := congrArg (fun x : EntD => x.b.recs) h3.2
  dsimp only at h4 h5 ⊢; rw [h4, h5]; exact ⟨Nat.zero_le _, Nat.zero_le _⟩
 ·have h3 : (fA off 0 1048576 && decide ((⟨2, b, yes, next, 0, row, prod⟩ : EntD) = zE 2)) = true := h3
  simp only [Bool.and_eq_true, decide_eq_true_eq] at h3
  have h4 := congrArg (fun x : EntD => x.prod.seen) h3.2
  have h5 := congrArg (fun x : EntD => x.b.recs) h3.2
  dsimp only at h4 h5 ⊢; rw [h4, h5]; exact ⟨Nat.zero_le _, Nat.zero_le _⟩
 ·have h3 : (b.txn && ((!yes || fA next 0 1048576) && (eJ b && decide ((⟨3, mY, false, if yes then 0 else next, off, row, prod⟩ : EntD) = zE 3)))) = true := h3
  simp only [Bool.and_eq_true, decide_eq_true_eq] at h3
  have h4 := congrArg (fun x : EntD => x.prod.seen) h3.2.2.2
  refine ⟨(mX h3.2.2.1).2, ?_⟩
  dsimp only at h4 ⊢; rw [h4]; exact Nat.zero_le _
 ·have h3 : (!yes && (fA next 0 1048576 && (fL b.pid b.epoch && decide ((⟨4, ⟨0, 0, b.seq, b.txn, b.recs⟩, false, 0, off, row, prod⟩ : EntD) = zE 4)))) = true := h3
  simp only [Bool.and_eq_true, decide_eq_true_eq] at h3
  have h4 := congrArg (fun x : EntD => x.prod.seen) h3.2.2.2
  have h5 := congrArg (fun x : EntD => x.b.recs) h3.2.2.2
  dsimp only at h4 h5 ⊢; rw [h4, h5]; exact ⟨Nat.zero_le _, Nat.zero_le _⟩
 ·have h3 : (mO row && decide ((⟨5, b, yes, next, off, nQ, prod⟩ : EntD) = zE 5)) = true := h3
  simp only [Bool.and_eq_true, decide_eq_true_eq] at h3
  have h4 := congrArg (fun x : EntD => x.prod.seen) h3.2
  have h5 := congrArg (fun x : EntD => x.b.recs) h3.2
  dsimp only at h4 h5 ⊢; rw [h4, h5]; exact ⟨Nat.zero_le _, Nat.zero_le _⟩
 ·have h3 : (bD prod && decide ((⟨6, b, yes, next, off, row, fW⟩ : EntD) = zE 6)) = true := h3
  simp only [Bool.and_eq_true, decide_eq_true_eq] at h3
  have h5 := congrArg (fun x : EntD => x.b.recs) h3.2
  refine ⟨?_, wT h3.1⟩
  dsimp only at h5 ⊢; rw [h5]; exact Nat.zero_le _
/-- What holds behind k entries of a log. -/
structure FOk14 (k : Nat) (s : RefS) : Prop where
 fin : 0 ≤ s.p.fin ∧ s.p.fin ≤ 1048576
 opens : s.p.opens = []
 rows : s.p.rows.length ≤ 40 * k
 prods : s.p.prods.length ≤ 10 * k
 seen : ∀ x ∈ s.p.prods, x.seen.length ≤ 100
 wts : s.w.length ≤ k
 bats : ∀ x ∈ s.w, x.2.length ≤ 8
 recs : ∀ x ∈ s.w, ∀ b ∈ x.2, b.recs.length ≤ 4
theorem FOk14.sm {k : Nat} {s : RefS} (h : FOk14 k s) (hk : k ≤ 1000) : Sm14 s.p s.w :=
 ⟨h.fin, by rw [h.opens]; exact Nat.zero_le _, by have := h.rows; omega, by have := h.prods; omega, h.seen, by have := h.wts; omega, h.bats, h.recs⟩
theorem aRn : FOk14 0 ref0 := ⟨by decide, rfl, Nat.le_refl _, Nat.le_refl _, (fun x hx => by cases hx), Nat.le_refl _, (fun x hx => by cases hx), (fun x hx => by cases hx)⟩
theorem aKy {w : Wts} {pid : Int} {b : BatD} (h : b ∈ cD w pid) : ∃ x ∈ w, b ∈ x.2 := by
 unfold cD at h
 cases hq : w[wI w pid]? with
 | none => rw [hq] at h; cases h
 | some x => rw [hq] at h; exact ⟨x, List.mem_of_getElem? hq, h⟩
theorem aKa {w : Wts} {pid : Int} {x : Int × List BatD} (h : x ∈ lQ w pid) : x ∈ w ∨ x.2 = [] := by
 unfold lQ at h
 split at h
 ·exact .inl h
 ·rcases List.mem_append.1 h with h | h
  ·exact .inl h
  ·simp at h; subst h; exact .inr rfl
theorem aDb {l : List BatD} {b : BatD} (h : lC l b = false) : l.length < 8 := by
 unfold lC at h
 simp only [Bool.or_eq_false_iff, decide_eq_false_iff_not] at h
 omega
theorem aI6 (l : List ProdD) (pid : Int) (k : Nat) (h : ∀ x ∈ l, x.seen.length ≤ 100) : (mJ l pid).length ≤ l.length + 1 ∧ ∀ x ∈ mJ l pid, x.seen.length ≤ 100 := by
 unfold mJ
 split
 ·refine ⟨nT _ _, fun x hx => ?_⟩
  rcases nU hx with hx | rfl
  ·exact h x hx
  ·simp
 ·exact ⟨by omega, h⟩
theorem aLs {k : Nat} {s t : RefS} {e : EntD} (h : FOk14 k s) (hb : e.b.recs.length ≤ 4) (hc : oK s e = (true, t)) (hf : t.p.fin ≤ 1048576) : FOk14 (k + 1) t := by
 have hfin := h.fin
 have hrow := h.rows
 have hpr := h.prods
 have hw := h.wts
 have hel := aRj s.w e.b.pid
 have hset : ∀ (hbad : lC (cD s.w e.b.pid) e.b = false), ∀ x ∈ (lQ s.w e.b.pid).set (wI s.w e.b.pid) (e.b.pid, cD s.w e.b.pid ++ [e.b]), x.2.length ≤ 8 ∧ ∀ b ∈ x.2, b.recs.length ≤ 4 := fun hbad x hx => by
  rcases List.mem_or_eq_of_mem_set hx with hx | rfl
  ·rcases aKa hx with hx | hx
   ·exact ⟨h.bats x hx, h.recs x hx⟩
   ·rw [hx]; exact ⟨Nat.zero_le _, fun b hb => by cases hb⟩
  ·have := aDb hbad
   refine ⟨by rw [List.length_append]; simp; omega, fun b hbm => ?_⟩
   rcases List.mem_append.1 hbm with hbm | hbm
   ·obtain ⟨y, hy, hy2⟩ := aKy hbm; exact h.recs y hy b hy2
   ·simp at hbm; subst hbm; exact hb
 have her : ∀ x ∈ (lQ s.w e.b.pid).eraseIdx (wI s.w e.b.pid), x ∈ s.w ∨ x.2 = [] := fun x hx => aKa (List.mem_of_mem_eraseIdx hx)
 unfold oK at hc
 split at hc
 ·cases hc
 rename_i hbad
 have hbad : lC (cD s.w e.b.pid) e.b = false := by simpa using hbad
 split at hc
 ·cases hc
  exact ⟨hfin, h.opens, by show s.p.rows.length ≤ _; omega, by show s.p.prods.length ≤ _; omega, h.seen, by show (List.set _ _ _).length ≤ _; rw [List.length_set]; omega, fun x hx => (hset hbad x hx).1, fun x hx => (hset hbad x hx).2⟩
 split at hc
 ·cases hc
 split at hc
 ·cases hc
 cases hc
 have hbl := aDb hbad
 have hL : (cD s.w e.b.pid ++ [e.b]).length ≤ 8 := by rw [List.length_append]; simp; omega
 obtain ⟨g1, g2, g3, g4, g5, g6, g7⟩ := vY (cD s.w e.b.pid ++ [e.b]) s.p (fun b hbm => by
  rcases List.mem_append.1 hbm with hbm | hbm
  ·obtain ⟨y, hy, hy2⟩ := aKy hbm; exact h.recs y hy b hy2
  ·simp at hbm; subst hbm; exact hb) h.seen
 generalize (aD s.p (cD s.w e.b.pid ++ [e.b])).2 = q at *
 obtain ⟨c1, c2⟩ := aI6 q.prods e.b.pid 0 g7
 refine ⟨⟨?_, hf⟩, g1.trans h.opens, by show q.rows.length ≤ _; omega, by show (mJ _ _).length ≤ _; omega, c2, ?_, fun x hx => ?_, fun x hx => ?_⟩
 ·show 0 ≤ q.fin; omega
 ·show (List.eraseIdx _ _).length ≤ _
  have := List.length_eraseIdx_le (lQ s.w e.b.pid) (wI s.w e.b.pid)
  omega
 ·rcases her x hx with hx | hx
  ·exact h.bats x hx
  ·rw [hx]; exact Nat.zero_le _
 ·rcases her x hx with hx | hx
  ·exact h.recs x hx
  ·rw [hx]; exact fun b hb => by cases hb
theorem aMp {k : Nat} {s t : RefS} {e : EntD} (h : FOk14 k s) (hs : bA s e = some t) : FOk14 (k + 1) t := by
 unfold bA at hs
 split at hs
 ·cases hs
 rename_i hok
 have hok : aS e = true := by simpa using hok
 obtain ⟨hb, hq⟩ := kE hok
 split at hs
 ·cases hs
 rename_i hn
 split at hs
 ·cases hs
 rename_i hf
 cases hs
 have hfin := h.fin
 have hrow := h.rows
 have hpr := h.prods
 have hw := h.wts
 unfold mD at hn hf ⊢
 split
 ·rename_i k0
  simp only [k0, if_true] at hn hf
  cases hp : iP s.p e.b with
  | none => rw [hp] at hn; exact absurd rfl hn
  | some q =>
   rw [hp] at hf
   dsimp only at hf ⊢
   unfold iP at hp
   split at hp
   ·cases hp
   cases hp
   obtain ⟨t1, t2⟩ := lP (k := s.p.prods.length) e.b s.p.fin (Nat.le_refl _) h.seen
   dsimp only at hf
   refine ⟨⟨by show 0 ≤ s.p.fin + _; omega, by show s.p.fin + _ ≤ _; omega⟩, h.opens, ?_, by show (aI _ _ _).1.length ≤ _; omega, t2, by show s.w.length ≤ _; omega, h.bats, h.recs⟩
   show (s.p.rows ++ dE e.b s.p.fin).length ≤ _
   rw [List.length_append, jQ]; omega
 rename_i k0
 simp only [k0, if_false] at hn hf
 split
 ·rename_i k3
  simp only [k3, if_true] at hn hf
  exact aLs h hb (Prod.ext (by simpa using hn) rfl) (by omega)
 rename_i k3
 simp only [k3, if_false] at hn hf
 split
 ·rename_i k4
  simp only [k4, if_true] at hn hf
  unfold nB at hn hf ⊢
  split
  ·rename_i hd; rw [hd] at hn; exact absurd rfl hn
  ·dsimp only
   have haw : (s.away e.b.pid).w.length ≤ s.w.length ∧ ∀ x ∈ (s.away e.b.pid).w, x ∈ s.w := by
    unfold RefS.away
    split
    ·exact ⟨List.length_eraseIdx_le .., fun x hx => List.mem_of_mem_eraseIdx hx⟩
    ·exact ⟨Nat.le_refl _, fun x hx => hx⟩
   have := nT s.p.prods ⟨e.b.pid, e.b.epoch, e.next, []⟩
   refine ⟨hfin, h.opens, by show s.p.rows.length ≤ _; omega, by show (dU _ _).length ≤ _; omega, fun x hx => ?_, by have := haw.1; show (s.away e.b.pid).w.length ≤ _; omega, fun x hx => h.bats x (haw.2 x hx), fun x hx => h.recs x (haw.2 x hx)⟩
   rcases nU hx with hx | rfl
   ·exact h.seen x hx
   ·simp
 rename_i k4
 simp only [k4, if_false] at hn hf
 cases hp : jY s.p e with
 | none => rw [hp] at hn; exact absurd rfl hn
 | some q =>
  rw [hp] at hf
  dsimp only at hf ⊢
  unfold jY at hp
  split at hp
  ·split at hp
   ·cases hp
   cases hp
   have := aC6 (yL e.off) s.p.rows
   exact ⟨hfin, h.opens, by show (rR _ _).length ≤ _; omega, by show s.p.prods.length ≤ _; omega, h.seen, by show s.w.length ≤ _; omega, h.bats, h.recs⟩
  split at hp
  ·cases hp
   dsimp only at hf
   exact ⟨⟨by show 0 ≤ s.p.fin + 1; omega, by show s.p.fin + 1 ≤ _; omega⟩, h.opens, by show (s.p.rows ++ [_]).length ≤ _; rw [List.length_append]; simp only [List.length_cons, List.length_nil]; omega, by show s.p.prods.length ≤ _; omega, h.seen, by show s.w.length ≤ _; omega, h.bats, h.recs⟩
  split at hp
  ·split at hp
   ·cases hp
   cases hp
   have := nT s.p.prods e.prod
   refine ⟨hfin, h.opens, by show s.p.rows.length ≤ _; omega, by show (dU _ _).length ≤ _; omega, fun x hx => ?_, by show s.w.length ≤ _; omega, h.bats, h.recs⟩
   rcases nU hx with hx | rfl
   ·exact h.seen x hx
   ·omega
  ·cases hp
def r14 (o : Option RefS) : PartD × Int := match o with
 | some t => (t.p, 0)
 | none => (pZ, 70)
theorem aMk {l : List EntD} {s : RefS} {k : Nat} (h : dJ s (l.take k) = none) : dJ s l = none := by
 conv => lhs; rw [← List.take_append_drop k l]
 rw [qA, h]
end Go.Proofs.YtpklhnpchhaccaaGreatDoor
