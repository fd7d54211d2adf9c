/- The abstract machine (PlB, PlC, PlD, PlE). -/
import Derived.Test.YtpklhnpchhaccaaGreatDoorRgM
namespace Go.Proofs.YtpklhnpchhaccaaGreatDoor
open Go Go.RowKit
set_option maxHeartbeats 4000000
set_option maxRecDepth 100000
set_option linter.unusedVariables false
set_option linter.unusedSimpArgs false
/-- Behind its producer's open transaction, or a new one. -/
def uS (b : BatD) : List OpenD → List OpenD
 | [] => [⟨b.pid, b.epoch, [b]⟩]
 | x :: l => if b.pid ≤ x.pid then (if x.pid = b.pid then ⟨x.pid, x.epoch, x.bats ++ [b]⟩ :: l else ⟨b.pid, b.epoch, [b]⟩ :: x :: l) else x :: uS b l
def aDr (pid : Int) : List OpenD → List OpenD
 | [] => []
 | x :: l => if pid ≤ x.pid then (if x.pid = pid then l else x :: l) else x :: aDr pid l
def eV (pid : Int) : List OpenD → Option OpenD
 | [] => none
 | x :: l => if pid ≤ x.pid then (if x.pid = pid then some x else none) else eV pid l
theorem lL (x : OpenD) (l : List OpenD) (pid : Int) : aY (x :: l) pid = if pid ≤ x.pid then 0 else aY l pid + 1 := by
 unfold aY
 rw [List.findIdx_cons]
 by_cases h : pid ≤ x.pid <;> simp [h]
theorem aJ6 (x : OpenD) (l : List OpenD) (pid : Int) : bU (x :: l) pid = if pid ≤ x.pid then x.pid == pid else bU l pid := by
 unfold bU
 rw [lL]
 by_cases h : pid ≤ x.pid <;> simp [h]
theorem aKd (pid : Int) : ∀ l : List OpenD, eV pid l = match bU l pid, l[aY l pid]? with
  | true, some o => some o
  | _, _ => none
 | [] => by simp [eV, bU]
 | x :: l => by
  have ih := aKd pid l
  rw [lL, aJ6, eV]
  by_cases h : pid ≤ x.pid
  ·by_cases h2 : x.pid = pid
   ·simp [h2]
   ·have h3 : (x.pid == pid) = false := by simpa using h2
    simp [h, h2, h3]
  ·simp only [h, if_false, ih, List.getElem?_cons_succ]
theorem uT (b : BatD) : ∀ l : List OpenD, eV b.pid l = none → l.take (aY l b.pid) ++ (⟨b.pid, b.epoch, [b]⟩ : OpenD) :: l.drop (aY l b.pid) = uS b l
 | [], _ => rfl
 | x :: l, h => by
  have ih := uT b l
  rw [eV] at h
  rw [lL, uS]
  by_cases h1 : b.pid ≤ x.pid
  ·rw [if_pos h1] at h
   by_cases h2 : x.pid = b.pid
   ·rw [if_pos h2] at h; cases h
   ·simp [h1, h2]
  ·rw [if_neg h1] at h
   simp [h1, ih h]
theorem aBg (b : BatD) (o : OpenD) : ∀ l : List OpenD, eV b.pid l = some o → l.set (aY l b.pid) ⟨o.pid, o.epoch, o.bats ++ [b]⟩ = uS b l
 | [], h => by cases h
 | x :: l, h => by
  have ih := aBg b o l
  rw [eV] at h
  rw [lL, uS]
  by_cases h1 : b.pid ≤ x.pid
  ·rw [if_pos h1] at h
   by_cases h2 : x.pid = b.pid
   ·rw [if_pos h2] at h; cases h; simp [h2]
   ·rw [if_neg h2] at h; cases h
  ·rw [if_neg h1] at h
   simp [h1, ih h]
theorem aK8 (pid : Int) (o : OpenD) : ∀ l : List OpenD, eV pid l = some o → l.take (aY l pid) ++ l.drop (aY l pid + 1) = aDr pid l
 | [], h => by cases h
 | x :: l, h => by
  have ih := aK8 pid o l
  rw [eV] at h
  rw [lL, aDr]
  by_cases h1 : pid ≤ x.pid
  ·rw [if_pos h1] at h
   by_cases h2 : x.pid = pid
   ·simp [h2]
   ·rw [if_neg h2] at h; cases h
  ·rw [if_neg h1] at h
   simp [h1, ih h]
theorem pV {pid : Int} {o : OpenD} : ∀ {l : List OpenD}, eV pid l = some o → o.pid = pid
 | [], h => by cases h
 | x :: l, h => by
  rw [eV] at h
  split at h
  ·split at h
   ·cases h; assumption
   ·cases h
  ·exact pV h
theorem aRp {q : Int} : ∀ {l : List OpenD}, (∀ x ∈ l, q < x.pid) → eV q l = none
 | [], _ => rfl
 | x :: l, h => by
  have := h x (List.mem_cons_self ..)
  rw [eV, if_pos (by omega), if_neg (by omega)]
theorem aG3 (pid q : Int) (hne : q ≠ pid) : ∀ l : List ProdD, bH (xF pid l) q = bH l q
 | [] => rfl
 | x :: l => by
  rw [xF]
  split
  ·rename_i h
   rw [eU, eU, if_neg (show ¬ x.pid = q by omega), if_neg (by omega)]
  ·rw [eU, eU, aG3 pid q hne l]
def aIx (l : List ProdD) (b : BatD) (base : Int) : ProdD := ⟨b.pid, b.epoch, eX b, jA l b base⟩
structure OkT (l : List ProdD) (b : BatD) : Prop where
 err : (aK l b).2.2 = 0
 dup : (aK l b).2.1 = false
theorem OkT.val {l : List ProdD} {b : BatD} (h : OkT l b) (base : Int) (hb : -1 ≤ base ∧ base ≤ 1048576) : (aI l b base).1 = dU l (aIx l b base) :=
 (nZ ((kZ l b base hb).2 ⟨h.err, h.dup⟩)).2.2.2
theorem OkT.known {l : List ProdD} {b : BatD} (h : OkT l b) (base : Int) (hb : -1 ≤ base ∧ base ≤ 1048576) : bD (aIx l b base) = true :=
 rA (by simp only [Bool.or_eq_false_iff, decide_eq_false_iff_not]; omega) h.err h.dup
theorem OkT.not {l : List ProdD} {b : BatD} : ((aK l b).2.2 ≠ 0 ∨ (aK l b).2.1 = true) ↔ ¬ OkT l b := by
 constructor
 ·rintro (h | h) h2
  ·exact h h2.err
  ·rw [h2.dup] at h; cases h
 ·intro h
  by_cases h1 : (aK l b).2.2 = 0
  ·right
   cases h2 : (aK l b).2.1 with
   | true => rfl
   | false => exact absurd ⟨h1, h2⟩ h
  ·exact .inl h1
theorem oT {l : List OpenD} {pid : Int} : (bU l pid = true ∧ ∃ o, l[aY l pid]? = some o ∧ eV pid l = some o) ∨ (bU l pid = false ∧ eV pid l = none) := by
 have h := aKd pid l
 cases ho : bU l pid with
 | false => right; rw [ho] at h; exact ⟨rfl, h⟩
 | true =>
  obtain ⟨o, hi, _⟩ := vR ho
  left; rw [ho, hi] at h; exact ⟨rfl, o, hi, h⟩
theorem aDq {p q : PartD} {b : BatD} (ht : b.txn = true) : jD p b = some q ↔ OkT p.prods b ∧ (∀ o, eV b.pid p.opens = some o → o.epoch = b.epoch ∧ o.bats.length < 8) ∧ q = { p with prods := dU p.prods (aIx p.prods b (-1)), opens := uS b p.opens } := by
 unfold jD
 by_cases hc : OkT p.prods b
 ·rw [if_neg (by rw [OkT.not]; exact fun h => h hc), hc.val (-1) (by omega)]
  rcases oT (l := p.opens) (pid := b.pid) with ⟨h1, o, h2, h3⟩ | ⟨h1, h3⟩
  ·simp only [h1, h2, h3, aBg b o p.opens h3]
   by_cases hx : b.txn = false ∨ o.epoch ≠ b.epoch ∨ 8 ≤ o.bats.length
   ·rw [if_pos hx]
    constructor
    ·intro h; cases h
    ·rintro ⟨_, h, _⟩
     obtain ⟨a1, a2⟩ := h o rfl
     rcases hx with hx | hx | hx
     ·rw [ht] at hx; cases hx
     ·exact absurd a1 hx
     ·omega
   ·rw [if_neg hx]
    constructor
    ·intro h; cases h
     refine ⟨hc, fun o' ho => ?_, rfl⟩
     cases ho
     refine ⟨Decidable.not_not.1 (fun h => hx (.inr (.inl h))), ?_⟩
     rcases Nat.lt_or_ge o.bats.length 8 with h | h
     ·exact h
     ·exact absurd (.inr (.inr h)) hx
    ·rintro ⟨_, _, rfl⟩; rfl
  ·simp only [h1, h3, uT b p.opens h3]
   rw [if_neg (by rw [ht]; simp)]
   constructor
   ·intro h; cases h
    exact ⟨hc, fun o ho => (by cases ho), rfl⟩
   ·rintro ⟨_, _, rfl⟩; rfl
 ·rw [if_pos (OkT.not.2 hc)]
  constructor
  ·intro h; cases h
  ·rintro ⟨h, _⟩; exact absurd h hc
theorem yM {p q : PartD} {b : BatD} (ht : b.txn = false) (hf : 0 ≤ p.fin ∧ p.fin ≤ 1048576) : jD p b = some q ↔ OkT p.prods b ∧ eV b.pid p.opens = none ∧ p.fin + (b.recs.length : Int) ≤ 1048576 ∧ q = { p with prods := dU p.prods (aIx p.prods b p.fin), rows := p.rows ++ dE b p.fin, fin := p.fin + (b.recs.length : Int) } := by
 unfold jD
 by_cases hc : OkT p.prods b
 ·rw [if_neg (by rw [OkT.not]; exact fun h => h hc), hc.val p.fin (by omega)]
  rcases oT (l := p.opens) (pid := b.pid) with ⟨h1, o, h2, h3⟩ | ⟨h1, h3⟩
  ·simp only [h1, h2, h3]
   rw [if_pos (.inl ht)]
   constructor
   ·intro h; cases h
   ·rintro ⟨_, h, _⟩; cases h
  ·simp only [h1, h3]
   rw [if_pos ht]
   by_cases hx : 1048576 < p.fin + (b.recs.length : Int)
   ·rw [if_pos hx]
    constructor
    ·intro h; cases h
    ·rintro ⟨_, _, h, _⟩; omega
   ·rw [if_neg hx]
    constructor
    ·intro h; cases h
     exact ⟨hc, by trivial, by omega, rfl⟩
    ·rintro ⟨_, _, _, rfl⟩; rfl
 ·rw [if_pos (OkT.not.2 hc)]
  constructor
  ·intro h; cases h
  ·rintro ⟨h, _⟩; exact absurd h hc
theorem aOl {p q : PartD} {b : BatD} {yes : Bool} : zL p b yes = some q ↔ ∃ o, eV b.pid p.opens = some o ∧ o.epoch = b.epoch ∧ p.fin + (bY (if yes then o.bats else []) : Nat) + 1 ≤ 1048576 ∧
  q = { kF p (if yes then o.bats else []) with fin := (kF p (if yes then o.bats else [])).fin + 1, opens := aDr b.pid p.opens, prods := dT p.prods b.pid } := by
 unfold zL
 rcases oT (l := p.opens) (pid := b.pid) with ⟨h1, o, h2, h3⟩ | ⟨h1, h3⟩
 ·simp only [h1, h2, h3, aK8 b.pid o p.opens h3]
  by_cases he : o.epoch = b.epoch
  ·rw [if_neg (fun h : o.epoch ≠ b.epoch => h he)]
   by_cases hx : 1048576 < p.fin + (bY (if yes then o.bats else []) : Nat) + 1
   ·rw [if_pos hx]
    constructor
    ·intro h; cases h
    ·rintro ⟨o', ho, _, h, _⟩; cases ho; omega
   ·rw [if_neg hx]
    constructor
    ·intro h; cases h
     exact ⟨o, rfl, he, by omega, rfl⟩
    ·rintro ⟨o', ho, _, _, rfl⟩; cases ho; rfl
  ·rw [if_pos (show o.epoch ≠ b.epoch from he)]
   constructor
   ·intro h; cases h
   ·rintro ⟨o', ho, h, _⟩; cases ho; exact absurd h he
 ·simp only [h1, h3]
  constructor
  ·intro h; cases h
  ·rintro ⟨o, ho, _⟩; cases ho
theorem aCr {p q : PartD} {e : EntD} (h : bS p e = some q) : aS e = true := by
 unfold bS at h
 cases ho : aS e with
 | true => rfl
 | false => rw [ho, if_pos rfl] at h; cases h
theorem aCq {p : PartD} {e : EntD} (ho : aS e = true) (he : e.kind = 0) : bS p e = jD p e.b := by
 unfold bS; simp [ho, he]
theorem aNc {p : PartD} {e : EntD} (ho : aS e = true) (he : e.kind = 1) : bS p e = zL p e.b e.yes := by
 unfold bS; simp [ho, he]
def aK3 (pid : Int) (l : List OpenD) : List BatD := match eV pid l with
 | some o => o.bats
 | none => []
theorem pT (b : BatD) : ∀ l : List OpenD, ∃ o, eV b.pid (uS b l) = some o ∧ o.bats = aK3 b.pid l ++ [b]
 | [] => ⟨⟨b.pid, b.epoch, [b]⟩, by simp [uS, eV], rfl⟩
 | x :: l => by
  obtain ⟨o, h1, h2⟩ := pT b l
  unfold aK3 at h2 ⊢
  rw [uS, eV]
  by_cases h : b.pid ≤ x.pid
  ·rw [if_pos h, if_pos h]
   by_cases h3 : x.pid = b.pid
   ·rw [if_pos h3, if_pos h3, eV, if_pos (show b.pid ≤ x.pid from h), if_pos (show x.pid = b.pid from h3)]
    exact ⟨_, rfl, rfl⟩
   ·rw [if_neg h3, if_neg h3, eV, if_pos (Int.le_refl _), if_pos rfl]
    exact ⟨_, rfl, rfl⟩
  ·rw [if_neg h, if_neg h, eV, if_neg h]
   exact ⟨o, h1, h2⟩
theorem pU (q : Int) : ∀ l : List OpenD, l.Pairwise (fun a b => a.pid < b.pid) → eV q (aDr q l) = none
 | [], _ => rfl
 | x :: l, hp => by
  rw [List.pairwise_cons] at hp
  rw [aDr]
  by_cases h : q ≤ x.pid
  ·rw [if_pos h]
   by_cases h3 : x.pid = q
   ·rw [if_pos h3]
    exact aRp (fun y hy => by have := hp.1 y hy; omega)
   ·rw [if_neg h3, eV, if_pos h, if_neg h3]
  ·rw [if_neg h, eV, if_neg h]
   exact pU q l hp.2
theorem aNd {p q : PartD} {e : EntD} (h : bS p e = some q) (h0 : e.kind ≠ 0) (h1 : e.kind ≠ 1) : q.opens = p.opens := by
 have ho := aCr h
 unfold bS at h
 rw [ho, if_neg (by simp), if_neg h0, if_neg h1] at h
 split at h
 ·split at h
  ·cases h
  ·cases h; rfl
 split at h
 ·cases h
 split at h
 ·cases h
 split at h
 ·split at h
  ·cases h
  ·cases h; rfl
 ·split at h
  ·cases h
  ·cases h; rfl
def wU {α : Type} (l : List α) : List α := l.drop (l.length - 3)
theorem aMf {α : Type} (a b : List α) : wU (wU a ++ b) = wU (a ++ b) := by
 unfold wU
 rw [List.length_append, List.length_drop, List.length_append, List.drop_append, List.drop_append, List.drop_drop, List.length_drop]
 by_cases h : a.length ≤ 3
 ·rw [show a.length - 3 = 0 by omega, show a.length - 0 + b.length - 3 = a.length + b.length - 3 by omega, Nat.zero_add, Nat.sub_zero]
 ·rw [show a.length - (a.length - 3) = 3 by omega, show 3 + b.length - 3 = b.length by omega, show a.length - 3 + b.length = a.length + b.length - 3 by omega, show b.length - 3 = a.length + b.length - 3 - a.length by omega]
def aKt (b : BatD) : SeenD := ⟨b.seq, (b.recs.length : Int), -1⟩
theorem aIy (l : List ProdD) (b : BatD) : jA l b (-1) = wU (pG l b ++ [aKt b]) := by
 unfold jA wU aKt
 rw [List.length_append, List.length_singleton, show (pG l b).length + 1 - 3 = (pG l b).length - 2 by omega]
/-- Batches one behind the other, from a sequence to another. -/
def aDk : Int → List BatD → Int → Prop
 | s, [], e => s = e
 | s, b :: l, e => b.seq = s ∧ aDk (eX b) l e
theorem wJ : ∀ (l : List BatD) (s e : Int) (b : BatD), aDk s l e → b.seq = e → aDk s (l ++ [b]) (eX b)
 | [], s, e, b, h, hb => ⟨by rw [hb]; exact h.symm, rfl⟩
 | x :: l, s, e, b, h, hb => ⟨h.1, wJ l (eX x) e b h.2 hb⟩
def aN6 (o : OpenD) : Int := match o.bats with
 | b :: _ => b.seq
 | [] => 0
/-- A producer and its open transaction. -/
structure Link (q : ProdD) (o : OpenD) : Prop where
 pid : q.pid = o.pid
 epoch : q.epoch = o.epoch
 some : o.bats ≠ []
 bats : ∀ b ∈ o.bats, eJ b = true ∧ b.txn = true ∧ b.pid = o.pid ∧ b.epoch = o.epoch
 chain : aDk (aN6 o) o.bats q.next
 seen : ∃ S : List SeenD, (∀ s ∈ S, s.seq < aN6 o) ∧ q.seen = wU (S ++ o.bats.map aKt)
structure BOk (p : PartD) : Prop where
 rows : ∀ r ∈ p.rows, (0 ≤ r.off ∧ r.off ≤ 1048576) ∧ mO { r with off := 0 } = true
 link : ∀ o ∈ p.opens, ∃ q, bH p.prods o.pid = (q, true) ∧ Link q o
theorem aNz : ∀ (l : List SeenD) (b : Int), mZ l b = true → ∀ s ∈ l, s.seq < b
 | [], _, _, s, h => by simp at h
 | x :: l, b, h, s, hs => by
  rw [mZ, Bool.and_eq_true] at h
  have h1 := h.1
  simp only [kO, aB2, aDa, Bool.not_eq_true', Bool.or_eq_false_iff, decide_eq_false_iff_not] at h1
  rcases List.mem_cons.1 hs with rfl | hs
  ·omega
  ·have := aNz l x.seq h.2 s hs
   omega
theorem aOi {p : ProdD} (h : bD p = true) : ∀ s ∈ p.seen, s.seq < p.next := fun s hs => by
 unfold bD at h
 rw [Bool.and_eq_true] at h
 exact aNz _ _ h.2 s (List.mem_reverse.2 hs)
theorem aBw (p : ProdD) : ∀ (l : List ProdD) (b : Int), kC l b = true → bH (hG p l) p.pid = (p, true)
 | [], _, _ => by rw [hG, eU, if_pos rfl]
 | x :: l, b, h => by
  rw [kC, Bool.and_eq_true] at h
  rw [hG]
  by_cases h1 : p.pid ≤ x.pid
  ·rw [if_pos h1]
   split
   ·rw [eU, if_pos rfl]
   ·rw [eU, if_pos rfl]
  ·rw [if_neg h1, eU, if_neg (by omega)]
   exact aBw p l x.pid h.2
theorem aIh {l : List ProdD} (p : ProdD) (h : iZ l = true) : bH (dU l p) p.pid = (p, true) := by
 rw [fD]; exact aBw p l 0 h
theorem aM5 {l : List ProdD} (q pid : Int) (hne : q ≠ pid) : bH (dT l pid) q = bH l q := by
 rw [lW]; exact aG3 pid q hne l
theorem nF {l : List OpenD} (hp : l.Pairwise (fun a b => a.pid < b.pid)) {o : OpenD} (ho : o ∈ l) : eV o.pid l = some o := by
 induction l with
 | nil => cases ho
 | cons x l ih =>
  rw [List.pairwise_cons] at hp
  rw [eV]
  rcases List.mem_cons.1 ho with rfl | ho
  ·rw [if_pos (Int.le_refl _), if_pos rfl]
  ·have := hp.1 o ho
   rw [if_neg (by omega)]
   exact ih hp.2 ho
theorem qD {pid : Int} {o : OpenD} : ∀ {l : List OpenD}, eV pid l = some o → o ∈ l
 | [], h => by cases h
 | x :: l, h => by
  rw [eV] at h
  split at h
  ·split at h
   ·cases h; exact List.mem_cons_self ..
   ·cases h
  ·exact List.mem_cons_of_mem _ (qD h)
theorem tS {b : BatD} {o : OpenD} : ∀ {l : List OpenD}, o ∈ uS b l → (o ∈ l ∧ o.pid ≠ b.pid) ∨ (∃ x, eV b.pid l = some x ∧ o = ⟨x.pid, x.epoch, x.bats ++ [b]⟩) ∨ (eV b.pid l = none ∧ o = ⟨b.pid, b.epoch, [b]⟩) ∨ (o ∈ l ∧ o.pid = b.pid)
 | [], h => by
  simp only [uS, List.mem_singleton] at h
  exact .inr (.inr (.inl ⟨rfl, h⟩))
 | x :: l, h => by
  have hsp : ∀ {m : List OpenD}, o ∈ m → (o ∈ m ∧ o.pid ≠ b.pid) ∨ (o ∈ m ∧ o.pid = b.pid) := fun hm => (Decidable.em (o.pid = b.pid)).elim (fun e => .inr ⟨hm, e⟩) (fun e => .inl ⟨hm, e⟩)
  rw [uS] at h
  rw [eV]
  by_cases h1 : b.pid ≤ x.pid
  ·rw [if_pos h1] at h
   by_cases h2 : x.pid = b.pid
   ·rw [if_pos h2] at h
    rcases List.mem_cons.1 h with h | h
    ·right; left; exact ⟨x, by rw [if_pos h1, if_pos h2], h⟩
    ·rcases hsp (List.mem_cons_of_mem x h) with h | h
     ·exact .inl h
     ·exact .inr (.inr (.inr h))
   ·rw [if_neg h2] at h
    rcases List.mem_cons.1 h with h | h
    ·right; right; left; exact ⟨by rw [if_pos h1, if_neg h2], h⟩
    ·rcases hsp h with h | h
     ·exact .inl h
     ·exact .inr (.inr (.inr h))
  ·rw [if_neg h1] at h
   rcases List.mem_cons.1 h with h | h
   ·left; exact ⟨h ▸ List.mem_cons_self .., by rw [h]; omega⟩
   ·rcases tS h with ⟨h, e⟩ | ⟨y, hy, e⟩ | ⟨hy, e⟩ | ⟨h, e⟩
    ·exact .inl ⟨List.mem_cons_of_mem _ h, e⟩
    ·right; left; exact ⟨y, by rw [if_neg h1]; exact hy, e⟩
    ·right; right; left; exact ⟨by rw [if_neg h1]; exact hy, e⟩
    ·exact .inr (.inr (.inr ⟨List.mem_cons_of_mem _ h, e⟩))
theorem aGn {pid : Int} {o : OpenD} : ∀ {l : List OpenD}, o ∈ aDr pid l → o ∈ l
 | [], h => h
 | x :: l, h => by
  rw [aDr] at h
  split at h
  ·split at h
   ·exact List.mem_cons_of_mem _ h
   ·exact h
  ·rcases List.mem_cons.1 h with h | h
   ·exact h ▸ List.mem_cons_self ..
   ·exact List.mem_cons_of_mem _ (aGn h)
/-- What a taken batch makes of its producer's open transaction. -/
theorem aMj {k : Nat} {p : PartD} {b : BatD} (hM : FOkM k p) (hB : BOk p) (ht : b.txn = true) (hk : OkT p.prods b) (ho : ∀ o, eV b.pid p.opens = some o → o.epoch = b.epoch ∧ o.bats.length < 8) {o : OpenD} (hg : eV b.pid (uS b p.opens) = some o) : Link (aIx p.prods b (-1)) o := by
 obtain ⟨c1, c2, c3, c4⟩ := tI hk.err hk.dup
 have hnew : (aIx p.prods b (-1)).seen = wU (pG p.prods b ++ [aKt b]) := aIy _ _
 cases hx : eV b.pid p.opens with
 | none =>
  have hadd := uT b p.opens hx
  have hos : o = ⟨b.pid, b.epoch, [b]⟩ := by
   rcases tS (qD hg) with ⟨_, h⟩ | ⟨x, h, _⟩ | ⟨_, h⟩ | ⟨h, e⟩
   ·exact absurd (pV hg) h
   ·rw [hx] at h; cases h
   ·exact h
   ·have := nF hM.ok.rise h
    rw [e, hx] at this; cases this
  subst hos
  refine ⟨rfl, rfl, by simp, fun x hx => by simp at hx; subst hx; exact ⟨c4, ht, rfl, rfl⟩, ⟨rfl, rfl⟩, pG p.prods b, fun s hs => ?_, by rw [hnew]; rfl⟩
  show s.seq < b.seq
  rw [c1] at hs
  rw [c2]
  unfold uX at hs ⊢
  split at hs
  ·simp at hs
  ·rename_i hc
   rw [if_neg hc]
   cases hf : bH p.prods b.pid with
   | mk q kn =>
    rw [hf] at hs hc
    cases kn with
    | false => simp at hc
    | true => exact aOi (vJ c3 q (nD hf)) s hs
 | some x =>
  have hxp := pV hx
  obtain ⟨he, _⟩ := ho x hx
  have hos : o = ⟨x.pid, x.epoch, x.bats ++ [b]⟩ := by
   rcases tS (qD hg) with ⟨_, h⟩ | ⟨y, h, e⟩ | ⟨h, _⟩ | ⟨h, e⟩
   ·exact absurd (pV hg) h
   ·rw [hx] at h; cases h; exact e
   ·rw [hx] at h; cases h
   ·exfalso
    have h1 := nF hM.ok.rise h
    rw [e, hx] at h1
    cases h1
    obtain ⟨y, hy1, hy2⟩ := pT b p.opens
    rw [hg] at hy1
    cases hy1
    have : _ = (aK3 b.pid p.opens ++ [b]).length := congrArg List.length hy2
    unfold aK3 at this
    rw [hx, List.length_append] at this
    simp at this
  obtain ⟨q, hq, hl⟩ := hB.link x (qD hx)
  rw [hxp] at hq
  have hqe : q.epoch = b.epoch := hl.epoch.trans he
  have hold : pG p.prods b = q.seen := by
   unfold pG
   rw [hq]
   simp [hqe]
  have heff : uX p.prods b = q := by
   unfold uX
   rw [hq]
   simp [hqe]
  rw [heff] at c2
  obtain ⟨S, hS1, hS2⟩ := hl.seen
  have hseq : aN6 o = aN6 x := by
   rw [hos]
   unfold aN6
   cases hb : x.bats with
   | nil => exact absurd hb hl.some
   | cons y l => rfl
  rw [hos] at hseq ⊢
  refine ⟨hxp.symm, he.symm, by simp, fun y hy => ?_, ?_, S, fun s hs => by rw [hseq]; exact hS1 s hs, ?_⟩
  ·rcases List.mem_append.1 hy with hy | hy
   ·exact hl.bats y hy
   ·simp at hy; subst hy; exact ⟨c4, ht, hxp.symm, he.symm⟩
  ·rw [hseq]
   exact wJ x.bats (aN6 x) q.next b hl.chain c2
  ·rw [hnew, hold, hS2, aMf, List.map_append, List.append_assoc]; rfl
theorem aN2 {b : BatD} {n : Int} {r : RowD} (h : r ∈ dE b n) : ∃ (i : Nat) (x : RecD), b.recs[i]? = some x ∧ r = rU b n i := by
 unfold dE nR at h
 obtain ⟨i, hi, rfl⟩ := List.mem_map.1 h
 rw [List.mem_range] at hi
 exact ⟨i, b.recs[i], List.getElem?_eq_getElem hi, rfl⟩
theorem uJ {b : BatD} {n : Int} (hb : eJ b = true) (hn : 0 ≤ n ∧ n + (b.recs.length : Int) ≤ 1048576) : ∀ r ∈ dE b n, (0 ≤ r.off ∧ r.off ≤ 1048576) ∧ mO { r with off := 0 } = true := fun r hr => by
 obtain ⟨i, x, hi, rfl⟩ := aN2 hr
 obtain ⟨hlt, _⟩ := List.getElem?_eq_some_iff.1 hi
 have hmem : x ∈ b.recs := List.mem_of_getElem? hi
 unfold eJ at hb
 simp only [Bool.and_eq_true, Bool.not_eq_true', Bool.or_eq_false_iff, decide_eq_false_iff_not] at hb
 obtain ⟨⟨⟨⟨⟨p1, p2⟩, p3, p4⟩, p5, p6⟩, p7, p8⟩, p9⟩ := hb
 have hx : badRec x = false := by
  rw [List.any_eq_false] at p9
  simpa using p9 x hmem
 unfold badRec at hx
 simp only [Bool.or_eq_false_iff, decide_eq_false_iff_not] at hx
 have w1 : IntKind.i64.wrap (n + (i : Int)) = n + (i : Int) := aW (by omega)
 have w2 : IntKind.i64.wrap (b.seq + (i : Int)) = b.seq + (i : Int) := aW (by omega)
 have hr2 : rU b n i = ⟨n + (i : Int), b.pid, b.seq + (i : Int), x.key, x.value⟩ := by
  simp only [rU, hi, w1, w2]
  rw [if_neg (by omega)]
 rw [hr2]
 refine ⟨⟨by show 0 ≤ n + (i : Int); omega, by show n + (i : Int) ≤ _; omega⟩, ?_⟩
 simp only [mO, fL, Bool.and_eq_true, decide_eq_true_eq, beq_iff_eq]
 refine ⟨⟨⟨⟨⟨by trivial, ⟨⟨⟨by omega, by omega⟩, by omega⟩, by omega⟩⟩, by omega⟩, by omega⟩, by omega⟩, by omega⟩
theorem aCk {k : Nat} : ∀ (l : List BatD) (p : PartD), (∀ b ∈ l, eJ b = true) → 0 ≤ p.fin → p.fin + (bY l : Nat) ≤ 1048576 → (∀ r ∈ p.rows, (0 ≤ r.off ∧ r.off ≤ 1048576) ∧ mO { r with off := 0 } = true) → ∀ r ∈ (kF p l).rows, (0 ≤ r.off ∧ r.off ≤ 1048576) ∧ mO { r with off := 0 } = true
 | [], p, _, _, _, h => h
 | b :: l, p, hb, h0, hs, h => by
  simp only [bY, Int.natCast_add] at hs
  refine aCk (k := k) l { p with rows := p.rows ++ dE b p.fin, fin := p.fin + (b.recs.length : Int) } (fun x hx => hb x (List.mem_cons_of_mem _ hx)) (by show 0 ≤ p.fin + _; omega) (by show p.fin + _ + _ ≤ _; omega) (fun r hr => ?_)
  rcases List.mem_append.1 hr with hr | hr
  ·exact h r hr
  ·exact uJ (hb b (List.mem_cons_self ..)) (by omega) r hr
theorem aQ6 {k : Nat} {p q : PartD} {e : EntD} (hM : FOkM k p) (hB : BOk p) (h : bS p e = some q) : BOk q := by
 have ho := aCr h
 have hM2 := aAh hM h
 have hfin := hM.fin
 by_cases h0 : e.kind = 0
 ·rw [aCq ho h0] at h
  cases ht : e.b.txn with
  | false =>
   obtain ⟨k1, k2, k3, rfl⟩ := (yM ht hfin).1 h
   have hbb := (tI k1.err k1.dup).2.2.2
   refine ⟨fun r hr => ?_, fun o hoo => ?_⟩
   ·rcases List.mem_append.1 hr with hr | hr
    ·exact hB.rows r hr
    ·exact uJ hbb (by omega) r hr
   ·obtain ⟨x, hx, hl⟩ := hB.link o hoo
    have hne : e.b.pid ≠ o.pid := fun e1 => by
     have := nF hM.ok.rise hoo
     rw [← e1, k2] at this; cases this
    exact ⟨x, by show bH (dU _ _) _ = _; rw [nE _ _ _ hne]; exact hx, hl⟩
  | true =>
   obtain ⟨k1, k2, rfl⟩ := (aDq ht).1 h
   refine ⟨hB.rows, fun o hoo => ?_⟩
   by_cases hp : o.pid = e.b.pid
   ·have hg := nF hM2.ok.rise hoo
    rw [hp] at hg
    refine ⟨_, ?_, aMj hM hB ht k1 k2 hg⟩
    show bH (dU _ _) _ = _
    rw [hp]
    exact aIh (aIx p.prods e.b (-1)) hM.may
   ·have hoo' : o ∈ p.opens := by
     rcases tS hoo with ⟨h, _⟩ | ⟨x, hx, e1⟩ | ⟨_, e1⟩ | ⟨h, _⟩
     ·exact h
     ·exfalso; apply hp; rw [e1]; exact pV (pid := e.b.pid) (o := x) hx
     ·exfalso; apply hp; rw [e1]
     ·exact h
    obtain ⟨x, hx, hl⟩ := hB.link o hoo'
    exact ⟨x, by show bH (dU _ _) _ = _; rw [nE _ _ _ (fun e1 => hp e1.symm)]; exact hx, hl⟩
 by_cases h1 : e.kind = 1
 ·rw [aNc ho h1] at h
  obtain ⟨o, g1, g2, g3, rfl⟩ := aOl.1 h
  obtain ⟨x, hx, hl⟩ := hB.link o (qD g1)
  refine ⟨?_, fun y hy => ?_⟩
  ·show ∀ r ∈ (kF p _).rows, _
   refine aCk (k := k) _ p (fun b hb => ?_) hfin.1 (by omega) hB.rows
   split at hb
   ·exact (hl.bats b hb).1
   ·simp at hb
  ·have hyl : y ∈ aDr e.b.pid p.opens := hy
   have hne : y.pid ≠ e.b.pid := fun e1 => by
    have h3 := nF hM2.ok.rise hy
    have h4 := pU e.b.pid p.opens hM.ok.rise
    rw [e1] at h3
    exact absurd (h3.symm.trans h4) (by simp)
   obtain ⟨z, hz, hzl⟩ := hB.link y (aGn hyl)
   exact ⟨z, by show bH (dT _ _) _ = _; rw [aM5 _ _ hne]; exact hz, hzl⟩
 ·have hop := aNd h h0 h1
  unfold bS at h
  rw [ho, if_neg (by simp), if_neg h0, if_neg h1] at h
  split at h
  ·split at h
   ·cases h
   ·cases h
    exact ⟨fun r hr => hB.rows r ((List.mem_filter.1 hr).1), hB.link⟩
  split at h
  ·cases h
  split at h
  ·cases h
  split at h
  ·rename_i h5
   split at h
   ·cases h
   ·rename_i hx
    cases h
    refine ⟨fun r hr => ?_, hB.link⟩
    rcases List.mem_append.1 hr with hr | hr
    ·exact hB.rows r hr
    ·simp at hr
     subst hr
     refine ⟨⟨by show 0 ≤ p.fin; omega, by show p.fin ≤ _; omega⟩, ?_⟩
     simp only [aS, Bool.and_eq_true, decide_eq_true_eq] at ho
     have hm2 := ho.2
     unfold vI at hm2
     rw [if_neg (by omega), if_neg (by omega), if_neg (by omega), if_neg (by omega), if_neg (by omega), if_pos h5, Bool.and_eq_true] at hm2
     have h7 := hm2.1
     simp only [mO, Bool.and_eq_true, beq_iff_eq] at h7 ⊢
     exact ⟨⟨⟨⟨⟨by trivial, h7.1.1.1.1.2⟩, h7.1.1.1.2⟩, h7.1.1.2⟩, h7.1.2⟩, h7.2⟩
  ·split at h
   ·cases h
   ·rename_i hob
    cases h
    refine ⟨hB.rows, fun o hoo => ?_⟩
    obtain ⟨x, hx, hl⟩ := hB.link o hoo
    have hne : e.prod.pid ≠ o.pid := fun e1 => by
     have h3 := nF hM.ok.rise hoo
     rcases oT (l := p.opens) (pid := e.prod.pid) with ⟨h4, _⟩ | ⟨_, h4⟩
     ·exact hob h4
     ·rw [e1] at h4; rw [h3] at h4; cases h4
    exact ⟨x, by show bH (dU _ _) _ = _; rw [nE _ _ _ hne]; exact hx, hl⟩
theorem aG7 : ∀ (l : List EntD) (k : Nat) (p p' : PartD), FOkM k p → BOk p → lF p l = some p' → BOk p'
 | [], k, p, p', _, h, hm => by cases hm; exact h
 | e :: l, k, p, p', hM, h, hm => by
  unfold lF at hm
  split at hm
  ·rename_i q hq
   exact aG7 l (k + 1) q p' (aAh hM hq) (aQ6 hM h hq) hm
  ·cases hm
def aNs (b : BatD) : EntD := ⟨0, b, false, 0, 0, nQ, fW⟩
end Go.Proofs.YtpklhnpchhaccaaGreatDoor
