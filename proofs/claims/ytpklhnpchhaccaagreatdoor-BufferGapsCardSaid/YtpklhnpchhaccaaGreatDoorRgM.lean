/- The abstract machine (RgA, RgB, RgC, RgD, PlA). -/
import Derived.Test.YtpklhnpchhaccaaGreatDoorInMe
import Derived.Test.YtpklhnpchhaccaaGreatDoorSqO
import Derived.Test.YtpklhnpchhaccaaGreatDoorSqN
namespace Go.Proofs.YtpklhnpchhaccaaGreatDoor
open Go Go.RowKit
set_option maxHeartbeats 4000000
set_option maxRecDepth 100000
set_option linter.unusedVariables false
set_option linter.unusedSimpArgs false


def mJ (l : List ProdD) (pid : Int) : List ProdD := if (bH l pid).2 = true then dU l ⟨(bH l pid).1.pid, (bH l pid).1.epoch, (bH l pid).1.next, []⟩ else l
/-- Without what is seen. -/
def xF (pid : Int) : List ProdD → List ProdD
 | [] => []
 | x :: l => if x.pid = pid then ⟨x.pid, x.epoch, x.next, []⟩ :: l else x :: xF pid l
theorem lW (pid : Int) : ∀ l : List ProdD, dT l pid = xF pid l
 | [] => by simp [dT, xF]
 | x :: l => by
  have ih := lW pid l
  by_cases h : x.pid = pid
  ·have h' : (x.pid == pid) = true := by simpa using h
   simp [dT, xF, List.findIdx_cons, h', h]
  ·have h' : (x.pid == pid) = false := by simpa using h
   simp only [xF, h, if_false, ← ih]
   simp only [dT, List.findIdx_cons, h', cond_false, List.getElem?_cons_succ]
   split <;> simp
theorem aKh : ∀ (l : List ProdD) (b : Int), kC l b = true → ∀ p ∈ l, b < p.pid
 | [], _, _, p, hp => by simp at hp
 | x :: l, b, h, p, hp => by
  rw [kC, Bool.and_eq_true] at h
  have h1 := h.1
  simp only [Bool.not_eq_true', Bool.or_eq_false_iff, decide_eq_false_iff_not] at h1
  rcases List.mem_cons.1 hp with rfl | hp
  ·omega
  ·have := aKh l x.pid h.2 p hp
   omega
theorem eU (x : ProdD) (l : List ProdD) (pid : Int) : bH (x :: l) pid = if x.pid = pid then (x, true) else bH l pid := by
 unfold bH
 by_cases h : x.pid = pid
 ·simp [h]
 ·have h' : (x.pid == pid) = false := by simpa using h
  rw [List.find?_cons_of_neg (by simp [h']), if_neg h]
theorem aM6 {l : List ProdD} {pid : Int} {p : ProdD} (h : bH l pid = (p, true)) : p.pid = pid := by
 unfold bH at h
 split at h
 ·rename_i q hq
  have := List.find?_some hq
  cases h
  simpa using this
 ·cases h
theorem wL (pid : Int) : ∀ (l : List ProdD) (b : Int), kC l b = true → mJ l pid = xF pid l
 | [], _, _ => rfl
 | x :: l, b, h => by
  rw [kC, Bool.and_eq_true] at h
  have ih := wL pid l x.pid h.2
  unfold mJ at ih ⊢
  rw [eU]
  by_cases hx : x.pid = pid
  ·rw [if_pos hx, if_pos rfl, fD]
   simp only [hG, xF, hx, Int.le_refl, if_true]
  ·rw [if_neg hx]
   simp only [xF, hx, if_false]
   rw [← ih]
   cases hf : bH l pid with
   | mk q k =>
    cases k with
    | false => rfl
    | true =>
     have hq := aM6 hf
     have hg := aKh l x.pid h.2 q (nD hf)
     simp only [if_true, fD]
     rw [hG, if_neg (by show ¬ q.pid ≤ x.pid; omega)]
theorem aLq {l : List ProdD} (pid : Int) (h : iZ l = true) : mJ l pid = dT l pid := by
 rw [wL pid l 0 h, lW]
theorem aMd {p : ProdD} (h : bD p = true) : bD ⟨p.pid, p.epoch, p.next, []⟩ = true := by
 unfold bD at h ⊢
 rw [Bool.and_eq_true] at h ⊢
 refine ⟨?_, rfl⟩
 have h1 := h.1
 unfold eF at h1 ⊢
 simp only [Bool.not_eq_true', Bool.or_eq_false_iff] at h1 ⊢
 exact ⟨h1.1, by simp⟩
theorem aGk (pid : Int) : ∀ (l : List ProdD) (b : Int), kC l b = true → kC (xF pid l) b = true
 | [], _, _ => rfl
 | x :: l, b, h => by
  rw [kC, Bool.and_eq_true] at h
  unfold xF
  split
  ·rw [kC, Bool.and_eq_true]
   refine ⟨?_, h.2⟩
   have h1 := h.1
   simp only [Bool.not_eq_true', Bool.or_eq_false_iff, Bool.not_eq_false'] at h1 ⊢
   exact ⟨h1.1, aMd h1.2⟩
  ·rw [kC, h.1, aGk pid l x.pid h.2]; rfl
theorem aCa {l : List ProdD} (pid : Int) (h : iZ l = true) : iZ (dT l pid) = true := by
 rw [lW]; exact aGk pid l 0 h
theorem qO {l : List ProdD} {b : BatD} {base : Int} (h : (aI l b base).2 = 0) : iZ (aI l b base).1 = true := by
 obtain ⟨a1, a2, a3, a4⟩ := nZ h
 rw [a4]
 exact oS (oF a2).1 (rA a1 a2 a3)
theorem kZ (l : List ProdD) (b : BatD) (base : Int) (hb : -1 ≤ base ∧ base ≤ 1048576) : (aI l b base).2 = 0 ↔ (aK l b).2.2 = 0 ∧ (aK l b).2.1 = false :=
 ⟨fun h => ⟨(nZ h).2.1, (nZ h).2.2.1⟩, fun h => aAl l b base h.1 h.2 hb⟩
/-- The document's step. -/
def iP (p : PartD) (b : BatD) : Option PartD :=
 if bU p.opens b.pid = true ∨ b.txn = true ∨ (aI p.prods b p.fin).2 ≠ 0 then none else some { p with prods := (aI p.prods b p.fin).1, rows := p.rows ++ dE b p.fin, fin := p.fin + (b.recs.length : Int) }
def aH2 (p : PartD) (b : BatD) : Option PartD :=
 match bU p.opens b.pid, p.opens[aY p.opens b.pid]? with
 | true, some o => if o.epoch ≠ b.epoch ∨ 8 ≤ o.bats.length then none else some { p with opens := p.opens.take (aY p.opens b.pid) ++ (⟨b.pid, b.epoch, o.bats ++ [b]⟩ : OpenD) :: p.opens.drop (aY p.opens b.pid + 1) }
 | _, _ => some { p with opens := p.opens.take (aY p.opens b.pid) ++ (⟨b.pid, b.epoch, [b]⟩ : OpenD) :: p.opens.drop (aY p.opens b.pid) }
def aEp (p : PartD) (b : BatD) : Option PartD :=
 if (aI p.prods b (-1)).2 ≠ 0 then none else match aH2 p b with
 | some q => some { q with prods := (aI p.prods b (-1)).1 }
 | none => none
def jY (p : PartD) (e : EntD) : Option PartD :=
 if e.kind = 2 then (if e.off < p.start ∨ p.fin < e.off then none else some { p with start := e.off, rows := rR (yL e.off) p.rows })
 else if e.kind = 5 then some { p with rows := p.rows ++ [{ e.row with off := p.fin }], fin := p.fin + 1 }
 else if e.kind = 6 then (if bU p.opens e.prod.pid = true then none else some { p with prods := dU p.prods e.prod })
 else none
theorem aRf (p : PartD) (b : BatD) (hf : 0 ≤ p.fin ∧ p.fin ≤ 1048576) : (match (if b.txn = true then aEp p b else iP p b) with | some q => if 1048576 < q.fin then none else some q | none => none) = jD p b := by
 have i1 := kZ p.prods b (-1) (by omega)
 have i2 := kZ p.prods b p.fin (by omega)
 unfold jD
 by_cases hc : (aK p.prods b).2.2 ≠ 0 ∨ (aK p.prods b).2.1 = true
 ·rw [if_pos hc]
  have hn : ¬ ((aK p.prods b).2.2 = 0 ∧ (aK p.prods b).2.1 = false) := fun h => by
   rcases hc with hc | hc
   ·exact hc h.1
   ·rw [h.2] at hc; cases hc
  have n1 : (aI p.prods b (-1)).2 ≠ 0 := fun h => hn (i1.1 h)
  have n2 : (aI p.prods b p.fin).2 ≠ 0 := fun h => hn (i2.1 h)
  cases ht : b.txn with
  | true => rw [if_pos rfl]; unfold aEp; rw [if_pos n1]
  | false => rw [if_neg (by simp)]; unfold iP; rw [if_pos (.inr (.inr n2))]
 ·rw [if_neg hc]
  have hy : (aK p.prods b).2.2 = 0 ∧ (aK p.prods b).2.1 = false := by
   refine ⟨Decidable.not_not.1 (fun h => hc (.inl h)), ?_⟩
   cases h : (aK p.prods b).2.1 with
   | false => rfl
   | true => exact absurd (.inr h) hc
  have n1 := i1.2 hy
  have n2 := i2.2 hy
  cases ho : bU p.opens b.pid with
  | true =>
   obtain ⟨o, hi, hpid⟩ := vR ho
   simp only [hi]
   cases ht : b.txn with
   | false =>
    rw [if_neg (by simp), if_pos (.inl rfl)]
    unfold iP
    rw [if_pos (.inl ho)]
   | true =>
    rw [if_pos rfl]
    unfold aEp aH2
    rw [if_neg (by simp [n1])]
    simp only [ho, hi]
    by_cases hx : o.epoch ≠ b.epoch ∨ 8 ≤ o.bats.length
    ·rw [if_pos hx, if_pos (.inr hx)]
    ·rw [if_neg hx, if_neg (fun h => h.elim (fun h => by cases h) hx)]
     have he : o.epoch = b.epoch := Decidable.not_not.1 (fun h => hx (.inl h))
     have hlt := (List.getElem?_eq_some_iff.1 hi).1
     simp only
     rw [if_neg (by omega), List.set_eq_take_append_cons_drop, if_pos hlt, hpid, he]
  | false =>
   simp only
   cases ht : b.txn with
   | false =>
    rw [if_neg (by simp), if_pos rfl]
    unfold iP
    rw [if_neg (by rw [ho, ht, n2]; simp)]
   | true =>
    rw [if_pos rfl, if_neg (by simp)]
    unfold aEp aH2
    rw [if_neg (by simp [n1])]
    simp only [ho]
    rw [if_neg (by omega)]
theorem aIl {e : EntD} (ho : aS e = true) (h6 : e.kind = 6) : bD e.prod = true := by
 simp only [aS, Bool.and_eq_true, decide_eq_true_eq] at ho
 have hm2 := ho.2
 unfold vI at hm2
 rw [if_neg (by omega), if_neg (by omega), if_neg (by omega), if_neg (by omega), if_neg (by omega), if_neg (by omega), Bool.and_eq_true] at hm2
 exact hm2.1
theorem aQ8 {p p' : PartD} {e : EntD} (hf : 0 ≤ p.fin ∧ p.fin ≤ 1048576) (hm : iZ p.prods = true) (h : bS p e = some p') : iZ p'.prods = true := by
 unfold bS at h
 cases ho : aS e with
 | false => rw [ho, if_pos rfl] at h; cases h
 | true =>
  rw [ho, if_neg (by simp)] at h
  split at h
  ·unfold jD at h
   split at h
   ·cases h
   rename_i hc
   have hy : (aK p.prods e.b).2.2 = 0 ∧ (aK p.prods e.b).2.1 = false := by
    refine ⟨Decidable.not_not.1 (fun h => hc (.inl h)), ?_⟩
    cases h : (aK p.prods e.b).2.1 with
    | false => rfl
    | true => exact absurd (.inr h) hc
   have n1 := qO ((kZ p.prods e.b (-1) (by omega)).2 hy)
   have n2 := qO ((kZ p.prods e.b p.fin (by omega)).2 hy)
   split at h
   ·split at h
    ·cases h
    ·cases h; exact n1
   ·split at h
    ·split at h
     ·cases h
     ·cases h; exact n2
    ·cases h; exact n1
  split at h
  ·unfold zL at h
   split at h
   ·rename_i o _ _
    obtain ⟨L, hL⟩ : ∃ L, L = (if e.yes = true then o.bats else []) := ⟨_, rfl⟩
    rw [← hL] at h
    split at h
    ·cases h
    split at h
    ·cases h
    ·cases h; exact aCa _ hm
   ·cases h
  split at h
  ·split at h
   ·cases h
   ·cases h; exact hm
  split at h
  ·cases h
  split at h
  ·cases h
  split at h
  ·split at h
   ·cases h
   ·cases h; exact hm
  ·split at h
   ·cases h
   ·cases h
    simp only [aS, Bool.and_eq_true, decide_eq_true_eq] at ho
    exact oS hm (aIl (by simp [aS]; exact ⟨⟨by omega, by omega⟩, ho.2⟩) (by omega))
/-- What holds of a part that k entries made. -/
structure FOkM (k : Nat) (p : PartD) : Prop extends FOk k p where
 may : iZ p.prods = true
theorem aAh {k : Nat} {p p' : PartD} {e : EntD} (h : FOkM k p) (hm : bS p e = some p') : FOkM (k + 1) p' := ⟨aEl h.toFOk hm, aQ8 h.fin h.may hm⟩
theorem aG8 : ∀ (l : List EntD) (k : Nat) (p p' : PartD), FOkM k p → lF p l = some p' → FOkM (k + l.length) p'
 | [], k, p, p', h, hm => by cases hm; exact h
 | e :: l, k, p, p', h, hm => by
  unfold lF at hm
  split at hm
  ·rename_i q hq
   have := aG8 l (k + 1) q p' (aAh h hq) hm
   rw [List.length_cons, show k + (l.length + 1) = k + 1 + l.length by omega]
   exact this
  ·cases hm
end Go.Proofs.YtpklhnpchhaccaaGreatDoor
