/- The abstract machine (PlB, PlC, PlD, PlE). -/
import Derived.Test.YtafipkbffboebaaGreatDoorRgM
namespace Go.Proofs.YtafipkbffboebaaGreatDoor
open Go Go.RowKit
set_option maxHeartbeats 4000000
set_option maxRecDepth 100000
set_option linter.unusedVariables false
set_option linter.unusedSimpArgs false
/-- Behind its producer's open transaction, or a new one. -/
def addO (b : BatD) : List OpenD → List OpenD
  | [] => [⟨b.pid, b.epoch, [b]⟩]
  | x :: l => if b.pid ≤ x.pid then (if x.pid = b.pid then ⟨x.pid, x.epoch, x.bats ++ [b]⟩ :: l else ⟨b.pid, b.epoch, [b]⟩ :: x :: l) else x :: addO b l
def delO (pid : Int) : List OpenD → List OpenD
  | [] => []
  | x :: l => if pid ≤ x.pid then (if x.pid = pid then l else x :: l) else x :: delO pid l
def getO (pid : Int) : List OpenD → Option OpenD
  | [] => none
  | x :: l => if pid ≤ x.pid then (if x.pid = pid then some x else none) else getO pid l
theorem openI_cons (x : OpenD) (l : List OpenD) (pid : Int) : openI (x :: l) pid = if pid ≤ x.pid then 0 else openI l pid + 1 := by
  unfold openI
  rw [List.findIdx_cons]
  by_cases h : pid ≤ x.pid <;> simp [h]
theorem openB_cons (x : OpenD) (l : List OpenD) (pid : Int) : openB (x :: l) pid = if pid ≤ x.pid then x.pid == pid else openB l pid := by
  unfold openB
  rw [openI_cons]
  by_cases h : pid ≤ x.pid <;> simp [h]
theorem getO_eq (pid : Int) : ∀ l : List OpenD, getO pid l = match openB l pid, l[openI l pid]? with
    | true, some o => some o
    | _, _ => none
  | [] => by simp [getO, openB]
  | x :: l => by
    have ih := getO_eq pid l
    rw [openI_cons, openB_cons, getO]
    by_cases h : pid ≤ x.pid
    · by_cases h2 : x.pid = pid
      · simp [h2]
      · have h3 : (x.pid == pid) = false := by simpa using h2
        simp [h, h2, h3]
    · simp only [h, if_false, ih, List.getElem?_cons_succ]
theorem addO_none (b : BatD) : ∀ l : List OpenD, getO b.pid l = none → l.take (openI l b.pid) ++ (⟨b.pid, b.epoch, [b]⟩ : OpenD) :: l.drop (openI l b.pid) = addO b l
  | [], _ => rfl
  | x :: l, h => by
    have ih := addO_none b l
    rw [getO] at h
    rw [openI_cons, addO]
    by_cases h1 : b.pid ≤ x.pid
    · rw [if_pos h1] at h
      by_cases h2 : x.pid = b.pid
      · rw [if_pos h2] at h; cases h
      · simp [h1, h2]
    · rw [if_neg h1] at h
      simp [h1, ih h]
theorem addO_some (b : BatD) (o : OpenD) : ∀ l : List OpenD, getO b.pid l = some o → l.set (openI l b.pid) ⟨o.pid, o.epoch, o.bats ++ [b]⟩ = addO b l
  | [], h => by cases h
  | x :: l, h => by
    have ih := addO_some b o l
    rw [getO] at h
    rw [openI_cons, addO]
    by_cases h1 : b.pid ≤ x.pid
    · rw [if_pos h1] at h
      by_cases h2 : x.pid = b.pid
      · rw [if_pos h2] at h; cases h; simp [h2]
      · rw [if_neg h2] at h; cases h
    · rw [if_neg h1] at h
      simp [h1, ih h]
theorem delO_eq (pid : Int) (o : OpenD) : ∀ l : List OpenD, getO pid l = some o → l.take (openI l pid) ++ l.drop (openI l pid + 1) = delO pid l
  | [], h => by cases h
  | x :: l, h => by
    have ih := delO_eq pid o l
    rw [getO] at h
    rw [openI_cons, delO]
    by_cases h1 : pid ≤ x.pid
    · rw [if_pos h1] at h
      by_cases h2 : x.pid = pid
      · simp [h2]
      · rw [if_neg h2] at h; cases h
    · rw [if_neg h1] at h
      simp [h1, ih h]
theorem getO_pid {pid : Int} {o : OpenD} : ∀ {l : List OpenD}, getO pid l = some o → o.pid = pid
  | [], h => by cases h
  | x :: l, h => by
    rw [getO] at h
    split at h
    · split at h
      · cases h; assumption
      · cases h
    · exact getO_pid h
theorem getO_lt {q : Int} : ∀ {l : List OpenD}, (∀ x ∈ l, q < x.pid) → getO q l = none
  | [], _ => rfl
  | x :: l, h => by
    have := h x (List.mem_cons_self ..)
    rw [getO, if_pos (by omega), if_neg (by omega)]
theorem find_clr (pid q : Int) (hne : q ≠ pid) : ∀ l : List ProdD, findF (clrP pid l) q = findF l q
  | [] => rfl
  | x :: l => by
    rw [clrP]
    split
    · rename_i h
      rw [findF_cons, findF_cons, if_neg (show ¬ x.pid = q by omega), if_neg (by omega)]
    · rw [findF_cons, findF_cons, find_clr pid q hne l]
def newP (l : List ProdD) (b : BatD) (base : Int) : ProdD := ⟨b.pid, b.epoch, behF b, newS l b base⟩
structure OkT (l : List ProdD) (b : BatD) : Prop where
  err : (checkF l b).2.2 = 0
  dup : (checkF l b).2.1 = false
theorem OkT.val {l : List ProdD} {b : BatD} (h : OkT l b) (base : Int) (hb : -1 ≤ base ∧ base ≤ 1048576) : (takeF l b base).1 = setF l (newP l b base) :=
  (takeF_ok ((takeF_iff l b base hb).2 ⟨h.err, h.dup⟩)).2.2.2
theorem OkT.known {l : List ProdD} {b : BatD} (h : OkT l b) (base : Int) (hb : -1 ≤ base ∧ base ≤ 1048576) : knownB (newP l b base) = true :=
  known_new (by simp only [Bool.or_eq_false_iff, decide_eq_false_iff_not]; omega) h.err h.dup
theorem OkT.not {l : List ProdD} {b : BatD} : ((checkF l b).2.2 ≠ 0 ∨ (checkF l b).2.1 = true) ↔ ¬ OkT l b := by
  constructor
  · rintro (h | h) h2
    · exact h h2.err
    · rw [h2.dup] at h; cases h
  · intro h
    by_cases h1 : (checkF l b).2.2 = 0
    · right
      cases h2 : (checkF l b).2.1 with
      | true => rfl
      | false => exact absurd ⟨h1, h2⟩ h
    · exact .inl h1
theorem openB_getO {l : List OpenD} {pid : Int} : (openB l pid = true ∧ ∃ o, l[openI l pid]? = some o ∧ getO pid l = some o) ∨ (openB l pid = false ∧ getO pid l = none) := by
  have h := getO_eq pid l
  cases ho : openB l pid with
  | false => right; rw [ho] at h; exact ⟨rfl, h⟩
  | true =>
    obtain ⟨o, hi, _⟩ := openB_get ho
    left; rw [ho, hi] at h; exact ⟨rfl, o, hi, h⟩
theorem data_txn_iff {p q : PartD} {b : BatD} (ht : b.txn = true) : dataP p b = some q ↔ OkT p.prods b ∧ (∀ o, getO b.pid p.opens = some o → o.epoch = b.epoch ∧ o.bats.length < 8) ∧ q = { p with prods := setF p.prods (newP p.prods b (-1)), opens := addO b p.opens } := by
  unfold dataP
  by_cases hc : OkT p.prods b
  · rw [if_neg (by rw [OkT.not]; exact fun h => h hc), hc.val (-1) (by omega)]
    rcases openB_getO (l := p.opens) (pid := b.pid) with ⟨h1, o, h2, h3⟩ | ⟨h1, h3⟩
    · simp only [h1, h2, h3, addO_some b o p.opens h3]
      by_cases hx : b.txn = false ∨ o.epoch ≠ b.epoch ∨ 8 ≤ o.bats.length
      · rw [if_pos hx]
        constructor
        · intro h; cases h
        · rintro ⟨_, h, _⟩
          obtain ⟨a1, a2⟩ := h o rfl
          rcases hx with hx | hx | hx
          · rw [ht] at hx; cases hx
          · exact absurd a1 hx
          · omega
      · rw [if_neg hx]
        constructor
        · intro h; cases h
          refine ⟨hc, fun o' ho => ?_, rfl⟩
          cases ho
          refine ⟨Decidable.not_not.1 (fun h => hx (.inr (.inl h))), ?_⟩
          rcases Nat.lt_or_ge o.bats.length 8 with h | h
          · exact h
          · exact absurd (.inr (.inr h)) hx
        · rintro ⟨_, _, rfl⟩; rfl
    · simp only [h1, h3, addO_none b p.opens h3]
      rw [if_neg (by rw [ht]; simp)]
      constructor
      · intro h; cases h
        exact ⟨hc, fun o ho => (by cases ho), rfl⟩
      · rintro ⟨_, _, rfl⟩; rfl
  · rw [if_pos (OkT.not.2 hc)]
    constructor
    · intro h; cases h
    · rintro ⟨h, _⟩; exact absurd h hc
theorem data_plain_iff {p q : PartD} {b : BatD} (ht : b.txn = false) (hf : 0 ≤ p.fin ∧ p.fin ≤ 1048576) : dataP p b = some q ↔ OkT p.prods b ∧ getO b.pid p.opens = none ∧ p.fin + (b.recs.length : Int) ≤ 1048576 ∧ q = { p with prods := setF p.prods (newP p.prods b p.fin), rows := p.rows ++ rowsF b p.fin, fin := p.fin + (b.recs.length : Int) } := by
  unfold dataP
  by_cases hc : OkT p.prods b
  · rw [if_neg (by rw [OkT.not]; exact fun h => h hc), hc.val p.fin (by omega)]
    rcases openB_getO (l := p.opens) (pid := b.pid) with ⟨h1, o, h2, h3⟩ | ⟨h1, h3⟩
    · simp only [h1, h2, h3]
      rw [if_pos (.inl ht)]
      constructor
      · intro h; cases h
      · rintro ⟨_, h, _⟩; cases h
    · simp only [h1, h3]
      rw [if_pos ht]
      by_cases hx : 1048576 < p.fin + (b.recs.length : Int)
      · rw [if_pos hx]
        constructor
        · intro h; cases h
        · rintro ⟨_, _, h, _⟩; omega
      · rw [if_neg hx]
        constructor
        · intro h; cases h
          exact ⟨hc, by trivial, by omega, rfl⟩
        · rintro ⟨_, _, _, rfl⟩; rfl
  · rw [if_pos (OkT.not.2 hc)]
    constructor
    · intro h; cases h
    · rintro ⟨h, _⟩; exact absurd h hc
theorem mark_iff {p q : PartD} {b : BatD} {yes : Bool} : markP p b yes = some q ↔ ∃ o, getO b.pid p.opens = some o ∧ o.epoch = b.epoch ∧ p.fin + (sumR (if yes then o.bats else []) : Nat) + 1 ≤ 1048576 ∧
    q = { putsP p (if yes then o.bats else []) with fin := (putsP p (if yes then o.bats else [])).fin + 1, opens := delO b.pid p.opens, prods := clearF p.prods b.pid } := by
  unfold markP
  rcases openB_getO (l := p.opens) (pid := b.pid) with ⟨h1, o, h2, h3⟩ | ⟨h1, h3⟩
  · simp only [h1, h2, h3, delO_eq b.pid o p.opens h3]
    by_cases he : o.epoch = b.epoch
    · rw [if_neg (fun h : o.epoch ≠ b.epoch => h he)]
      by_cases hx : 1048576 < p.fin + (sumR (if yes then o.bats else []) : Nat) + 1
      · rw [if_pos hx]
        constructor
        · intro h; cases h
        · rintro ⟨o', ho, _, h, _⟩; cases ho; omega
      · rw [if_neg hx]
        constructor
        · intro h; cases h
          exact ⟨o, rfl, he, by omega, rfl⟩
        · rintro ⟨o', ho, _, _, rfl⟩; cases ho; rfl
    · rw [if_pos (show o.epoch ≠ b.epoch from he)]
      constructor
      · intro h; cases h
      · rintro ⟨o', ho, h, _⟩; cases ho; exact absurd h he
  · simp only [h1, h3]
    constructor
    · intro h; cases h
    · rintro ⟨o, ho, _⟩; cases ho
theorem step_kind {p q : PartD} {e : EntD} (h : stepP p e = some q) : okKind e = true := by
  unfold stepP at h
  cases ho : okKind e with
  | true => rfl
  | false => rw [ho, if_pos rfl] at h; cases h
theorem step_data {p : PartD} {e : EntD} (ho : okKind e = true) (he : e.kind = 0) : stepP p e = dataP p e.b := by
  unfold stepP; simp [ho, he]
theorem step_mark {p : PartD} {e : EntD} (ho : okKind e = true) (he : e.kind = 1) : stepP p e = markP p e.b e.yes := by
  unfold stepP; simp [ho, he]
theorem foldP_one (p q : PartD) (e : EntD) (l : List EntD) (h : stepP p e = some q) : foldP p (e :: l) = foldP q l := by
  rw [foldP, h]
end Go.Proofs.YtafipkbffboebaaGreatDoor
namespace Go.Proofs.YtafipkbffboebaaGreatDoor
open Go Go.RowKit
set_option maxHeartbeats 4000000
set_option maxRecDepth 100000
set_option linter.unusedVariables false
set_option linter.unusedSimpArgs false
def batsO (pid : Int) (l : List OpenD) : List BatD := match getO pid l with
  | some o => o.bats
  | none => []
theorem getO_addO_self (b : BatD) : ∀ l : List OpenD, ∃ o, getO b.pid (addO b l) = some o ∧ o.bats = batsO b.pid l ++ [b]
  | [] => ⟨⟨b.pid, b.epoch, [b]⟩, by simp [addO, getO], rfl⟩
  | x :: l => by
    obtain ⟨o, h1, h2⟩ := getO_addO_self b l
    unfold batsO at h2 ⊢
    rw [addO, getO]
    by_cases h : b.pid ≤ x.pid
    · rw [if_pos h, if_pos h]
      by_cases h3 : x.pid = b.pid
      · rw [if_pos h3, if_pos h3, getO, if_pos (show b.pid ≤ x.pid from h), if_pos (show x.pid = b.pid from h3)]
        exact ⟨_, rfl, rfl⟩
      · rw [if_neg h3, if_neg h3, getO, if_pos (Int.le_refl _), if_pos rfl]
        exact ⟨_, rfl, rfl⟩
    · rw [if_neg h, if_neg h, getO, if_neg h]
      exact ⟨o, h1, h2⟩
theorem getO_delO_self (q : Int) : ∀ l : List OpenD, l.Pairwise (fun a b => a.pid < b.pid) → getO q (delO q l) = none
  | [], _ => rfl
  | x :: l, hp => by
    rw [List.pairwise_cons] at hp
    rw [delO]
    by_cases h : q ≤ x.pid
    · rw [if_pos h]
      by_cases h3 : x.pid = q
      · rw [if_pos h3]
        exact getO_lt (fun y hy => by have := hp.1 y hy; omega)
      · rw [if_neg h3, getO, if_pos h, if_neg h3]
    · rw [if_neg h, getO, if_neg h]
      exact getO_delO_self q l hp.2
theorem step_rest {p q : PartD} {e : EntD} (h : stepP p e = some q) (h0 : e.kind ≠ 0) (h1 : e.kind ≠ 1) : q.opens = p.opens := by
  have ho := step_kind h
  unfold stepP at h
  rw [ho, if_neg (by simp), if_neg h0, if_neg h1] at h
  split at h
  · split at h
    · cases h
    · cases h; rfl
  split at h
  · cases h
  split at h
  · cases h
  split at h
  · split at h
    · cases h
    · cases h; rfl
  · split at h
    · cases h
    · cases h; rfl
end Go.Proofs.YtafipkbffboebaaGreatDoor
namespace Go.Proofs.YtafipkbffboebaaGreatDoor
open Go Go.RowKit
set_option maxHeartbeats 4000000
set_option maxRecDepth 100000
set_option linter.unusedVariables false
set_option linter.unusedSimpArgs false
def last3 {α : Type} (l : List α) : List α := l.drop (l.length - 3)
theorem last3_app {α : Type} (a b : List α) : last3 (last3 a ++ b) = last3 (a ++ b) := by
  unfold last3
  rw [List.length_append, List.length_drop, List.length_append, List.drop_append, List.drop_append, List.drop_drop, List.length_drop]
  by_cases h : a.length ≤ 3
  · rw [show a.length - 3 = 0 by omega, show a.length - 0 + b.length - 3 = a.length + b.length - 3 by omega, Nat.zero_add, Nat.sub_zero]
  · rw [show a.length - (a.length - 3) = 3 by omega, show 3 + b.length - 3 = b.length by omega, show a.length - 3 + b.length = a.length + b.length - 3 by omega, show b.length - 3 = a.length + b.length - 3 - a.length by omega]
def seenB (b : BatD) : SeenD := ⟨b.seq, (b.recs.length : Int), -1⟩
theorem newS_last3 (l : List ProdD) (b : BatD) : newS l b (-1) = last3 (oldS l b ++ [seenB b]) := by
  unfold newS last3 seenB
  rw [List.length_append, List.length_singleton, show (oldS l b).length + 1 - 3 = (oldS l b).length - 2 by omega]
/-- Batches one behind the other, from a sequence to another. -/
def chainS : Int → List BatD → Int → Prop
  | s, [], e => s = e
  | s, b :: l, e => b.seq = s ∧ chainS (behF b) l e
theorem chainS_snoc : ∀ (l : List BatD) (s e : Int) (b : BatD), chainS s l e → b.seq = e → chainS s (l ++ [b]) (behF b)
  | [], s, e, b, h, hb => ⟨by rw [hb]; exact h.symm, rfl⟩
  | x :: l, s, e, b, h, hb => ⟨h.1, chainS_snoc l (behF x) e b h.2 hb⟩
def seqO (o : OpenD) : Int := match o.bats with
  | b :: _ => b.seq
  | [] => 0
/-- A producer and its open transaction. -/
structure Link (q : ProdD) (o : OpenD) : Prop where
  pid : q.pid = o.pid
  epoch : q.epoch = o.epoch
  some : o.bats ≠ []
  bats : ∀ b ∈ o.bats, batB b = true ∧ b.txn = true ∧ b.pid = o.pid ∧ b.epoch = o.epoch
  chain : chainS (seqO o) o.bats q.next
  seen : ∃ S : List SeenD, (∀ s ∈ S, s.seq < seqO o) ∧ q.seen = last3 (S ++ o.bats.map seenB)
structure BOk (p : PartD) : Prop where
  rows : ∀ r ∈ p.rows, (0 ≤ r.off ∧ r.off ≤ 1048576) ∧ rowB { r with off := 0 } = true
  link : ∀ o ∈ p.opens, ∃ q, findF p.prods o.pid = (q, true) ∧ Link q o
theorem bok0 : BOk pZ := ⟨fun r h => by simp [pZ] at h, fun o h => by simp [pZ] at h⟩
theorem chk_lt : ∀ (l : List SeenD) (b : Int), chkR l b = true → ∀ s ∈ l, s.seq < b
  | [], _, _, s, h => by simp at h
  | x :: l, b, h, s, hs => by
    rw [chkR, Bool.and_eq_true] at h
    have h1 := h.1
    simp only [badS, bad1, bad2, Bool.not_eq_true', Bool.or_eq_false_iff, decide_eq_false_iff_not] at h1
    rcases List.mem_cons.1 hs with rfl | hs
    · omega
    · have := chk_lt l x.seq h.2 s hs
      omega
theorem known_lt {p : ProdD} (h : knownB p = true) : ∀ s ∈ p.seen, s.seq < p.next := fun s hs => by
  unfold knownB at h
  rw [Bool.and_eq_true] at h
  exact chk_lt _ _ h.2 s (List.mem_reverse.2 hs)
theorem findF_ins (p : ProdD) : ∀ (l : List ProdD) (b : Int), mayR l b = true → findF (insP p l) p.pid = (p, true)
  | [], _, _ => by rw [insP, findF_cons, if_pos rfl]
  | x :: l, b, h => by
    rw [mayR, Bool.and_eq_true] at h
    rw [insP]
    by_cases h1 : p.pid ≤ x.pid
    · rw [if_pos h1]
      split
      · rw [findF_cons, if_pos rfl]
      · rw [findF_cons, if_pos rfl]
    · rw [if_neg h1, findF_cons, if_neg (by omega)]
      exact findF_ins p l x.pid h.2
theorem findF_self {l : List ProdD} (p : ProdD) (h : mayL l = true) : findF (setF l p) p.pid = (p, true) := by
  rw [setF_insP]; exact findF_ins p l 0 h
theorem findF_clr {l : List ProdD} (q pid : Int) (hne : q ≠ pid) : findF (clearF l pid) q = findF l q := by
  rw [clearF_clrP]; exact find_clr pid q hne l
theorem getO_mem {l : List OpenD} (hp : l.Pairwise (fun a b => a.pid < b.pid)) {o : OpenD} (ho : o ∈ l) : getO o.pid l = some o := by
  induction l with
  | nil => cases ho
  | cons x l ih =>
    rw [List.pairwise_cons] at hp
    rw [getO]
    rcases List.mem_cons.1 ho with rfl | ho
    · rw [if_pos (Int.le_refl _), if_pos rfl]
    · have := hp.1 o ho
      rw [if_neg (by omega)]
      exact ih hp.2 ho
theorem mem_getO {pid : Int} {o : OpenD} : ∀ {l : List OpenD}, getO pid l = some o → o ∈ l
  | [], h => by cases h
  | x :: l, h => by
    rw [getO] at h
    split at h
    · split at h
      · cases h; exact List.mem_cons_self ..
      · cases h
    · exact List.mem_cons_of_mem _ (mem_getO h)
theorem mem_addO {b : BatD} {o : OpenD} : ∀ {l : List OpenD}, o ∈ addO b l → (o ∈ l ∧ o.pid ≠ b.pid) ∨ (∃ x, getO b.pid l = some x ∧ o = ⟨x.pid, x.epoch, x.bats ++ [b]⟩) ∨ (getO b.pid l = none ∧ o = ⟨b.pid, b.epoch, [b]⟩) ∨ (o ∈ l ∧ o.pid = b.pid)
  | [], h => by
    simp only [addO, List.mem_singleton] at h
    exact .inr (.inr (.inl ⟨rfl, h⟩))
  | x :: l, h => by
    have hsp : ∀ {m : List OpenD}, o ∈ m → (o ∈ m ∧ o.pid ≠ b.pid) ∨ (o ∈ m ∧ o.pid = b.pid) := fun hm => (Decidable.em (o.pid = b.pid)).elim (fun e => .inr ⟨hm, e⟩) (fun e => .inl ⟨hm, e⟩)
    rw [addO] at h
    rw [getO]
    by_cases h1 : b.pid ≤ x.pid
    · rw [if_pos h1] at h
      by_cases h2 : x.pid = b.pid
      · rw [if_pos h2] at h
        rcases List.mem_cons.1 h with h | h
        · right; left; exact ⟨x, by rw [if_pos h1, if_pos h2], h⟩
        · rcases hsp (List.mem_cons_of_mem x h) with h | h
          · exact .inl h
          · exact .inr (.inr (.inr h))
      · rw [if_neg h2] at h
        rcases List.mem_cons.1 h with h | h
        · right; right; left; exact ⟨by rw [if_pos h1, if_neg h2], h⟩
        · rcases hsp h with h | h
          · exact .inl h
          · exact .inr (.inr (.inr h))
    · rw [if_neg h1] at h
      rcases List.mem_cons.1 h with h | h
      · left; exact ⟨h ▸ List.mem_cons_self .., by rw [h]; omega⟩
      · rcases mem_addO h with ⟨h, e⟩ | ⟨y, hy, e⟩ | ⟨hy, e⟩ | ⟨h, e⟩
        · exact .inl ⟨List.mem_cons_of_mem _ h, e⟩
        · right; left; exact ⟨y, by rw [if_neg h1]; exact hy, e⟩
        · right; right; left; exact ⟨by rw [if_neg h1]; exact hy, e⟩
        · exact .inr (.inr (.inr ⟨List.mem_cons_of_mem _ h, e⟩))
theorem mem_delO {pid : Int} {o : OpenD} : ∀ {l : List OpenD}, o ∈ delO pid l → o ∈ l
  | [], h => h
  | x :: l, h => by
    rw [delO] at h
    split at h
    · split at h
      · exact List.mem_cons_of_mem _ h
      · exact h
    · rcases List.mem_cons.1 h with h | h
      · exact h ▸ List.mem_cons_self ..
      · exact List.mem_cons_of_mem _ (mem_delO h)
/-- What a taken batch makes of its producer's open transaction. -/
theorem link_take {k : Nat} {p : PartD} {b : BatD} (hM : FOkM k p) (hB : BOk p) (ht : b.txn = true) (hk : OkT p.prods b) (ho : ∀ o, getO b.pid p.opens = some o → o.epoch = b.epoch ∧ o.bats.length < 8) {o : OpenD} (hg : getO b.pid (addO b p.opens) = some o) : Link (newP p.prods b (-1)) o := by
  obtain ⟨c1, c2, c3, c4⟩ := check_ok hk.err hk.dup
  have hnew : (newP p.prods b (-1)).seen = last3 (oldS p.prods b ++ [seenB b]) := newS_last3 _ _
  cases hx : getO b.pid p.opens with
  | none =>
    have hadd := addO_none b p.opens hx
    have hos : o = ⟨b.pid, b.epoch, [b]⟩ := by
      rcases mem_addO (mem_getO hg) with ⟨_, h⟩ | ⟨x, h, _⟩ | ⟨_, h⟩ | ⟨h, e⟩
      · exact absurd (getO_pid hg) h
      · rw [hx] at h; cases h
      · exact h
      · have := getO_mem hM.ok.rise h
        rw [e, hx] at this; cases this
    subst hos
    refine ⟨rfl, rfl, by simp, fun x hx => by simp at hx; subst hx; exact ⟨c4, ht, rfl, rfl⟩, ⟨rfl, rfl⟩, oldS p.prods b, fun s hs => ?_, by rw [hnew]; rfl⟩
    show s.seq < b.seq
    rw [c1] at hs
    rw [c2]
    unfold effP at hs ⊢
    split at hs
    · simp at hs
    · rename_i hc
      rw [if_neg hc]
      cases hf : findF p.prods b.pid with
      | mk q kn =>
        rw [hf] at hs hc
        cases kn with
        | false => simp at hc
        | true => exact known_lt (may_known c3 q (findF_mem hf)) s hs
  | some x =>
    have hxp := getO_pid hx
    obtain ⟨he, _⟩ := ho x hx
    have hos : o = ⟨x.pid, x.epoch, x.bats ++ [b]⟩ := by
      rcases mem_addO (mem_getO hg) with ⟨_, h⟩ | ⟨y, h, e⟩ | ⟨h, _⟩ | ⟨h, e⟩
      · exact absurd (getO_pid hg) h
      · rw [hx] at h; cases h; exact e
      · rw [hx] at h; cases h
      · exfalso
        have h1 := getO_mem hM.ok.rise h
        rw [e, hx] at h1
        cases h1
        obtain ⟨y, hy1, hy2⟩ := getO_addO_self b p.opens
        rw [hg] at hy1
        cases hy1
        have : _ = (batsO b.pid p.opens ++ [b]).length := congrArg List.length hy2
        unfold batsO at this
        rw [hx, List.length_append] at this
        simp at this
    obtain ⟨q, hq, hl⟩ := hB.link x (mem_getO hx)
    rw [hxp] at hq
    have hqe : q.epoch = b.epoch := hl.epoch.trans he
    have hold : oldS p.prods b = q.seen := by
      unfold oldS
      rw [hq]
      simp [hqe]
    have heff : effP p.prods b = q := by
      unfold effP
      rw [hq]
      simp [hqe]
    rw [heff] at c2
    obtain ⟨S, hS1, hS2⟩ := hl.seen
    have hseq : seqO o = seqO x := by
      rw [hos]
      unfold seqO
      cases hb : x.bats with
      | nil => exact absurd hb hl.some
      | cons y l => rfl
    rw [hos] at hseq ⊢
    refine ⟨hxp.symm, he.symm, by simp, fun y hy => ?_, ?_, S, fun s hs => by rw [hseq]; exact hS1 s hs, ?_⟩
    · rcases List.mem_append.1 hy with hy | hy
      · exact hl.bats y hy
      · simp at hy; subst hy; exact ⟨c4, ht, hxp.symm, he.symm⟩
    · rw [hseq]
      exact chainS_snoc x.bats (seqO x) q.next b hl.chain c2
    · rw [hnew, hold, hS2, last3_app, List.map_append, List.append_assoc]; rfl
theorem rowsF_mem {b : BatD} {n : Int} {r : RowD} (h : r ∈ rowsF b n) : ∃ (i : Nat) (x : RecD), b.recs[i]? = some x ∧ r = rowAt b n i := by
  unfold rowsF rowsT at h
  obtain ⟨i, hi, rfl⟩ := List.mem_map.1 h
  rw [List.mem_range] at hi
  exact ⟨i, b.recs[i], List.getElem?_eq_getElem hi, rfl⟩
theorem rowsF_ok {b : BatD} {n : Int} (hb : batB b = true) (hn : 0 ≤ n ∧ n + (b.recs.length : Int) ≤ 1048576) : ∀ r ∈ rowsF b n, (0 ≤ r.off ∧ r.off ≤ 1048576) ∧ rowB { r with off := 0 } = true := fun r hr => by
  obtain ⟨i, x, hi, rfl⟩ := rowsF_mem hr
  obtain ⟨hlt, _⟩ := List.getElem?_eq_some_iff.1 hi
  have hmem : x ∈ b.recs := List.mem_of_getElem? hi
  unfold batB at hb
  simp only [Bool.and_eq_true, Bool.not_eq_true', Bool.or_eq_false_iff, decide_eq_false_iff_not] at hb
  obtain ⟨⟨⟨⟨⟨p1, p2⟩, p3, p4⟩, p5, p6⟩, p7, p8⟩, p9⟩ := hb
  have hx : badRec x = false := by
    rw [List.any_eq_false] at p9
    simpa using p9 x hmem
  unfold badRec at hx
  simp only [Bool.or_eq_false_iff, decide_eq_false_iff_not] at hx
  have w1 : IntKind.i64.wrap (n + (i : Int)) = n + (i : Int) := wrap_i64 (by omega)
  have w2 : IntKind.i64.wrap (b.seq + (i : Int)) = b.seq + (i : Int) := wrap_i64 (by omega)
  have hr2 : rowAt b n i = ⟨n + (i : Int), b.pid, b.seq + (i : Int), x.key, x.value⟩ := by
    simp only [rowAt, hi, w1, w2]
    rw [if_neg (by omega)]
  rw [hr2]
  refine ⟨⟨by show 0 ≤ n + (i : Int); omega, by show n + (i : Int) ≤ _; omega⟩, ?_⟩
  simp only [rowB, prodB, Bool.and_eq_true, decide_eq_true_eq, beq_iff_eq]
  refine ⟨⟨⟨⟨⟨by trivial, ⟨⟨⟨by omega, by omega⟩, by omega⟩, by omega⟩⟩, by omega⟩, by omega⟩, by omega⟩, by omega⟩
theorem puts_rows {k : Nat} : ∀ (l : List BatD) (p : PartD), (∀ b ∈ l, batB b = true) → 0 ≤ p.fin → p.fin + (sumR l : Nat) ≤ 1048576 → (∀ r ∈ p.rows, (0 ≤ r.off ∧ r.off ≤ 1048576) ∧ rowB { r with off := 0 } = true) → ∀ r ∈ (putsP p l).rows, (0 ≤ r.off ∧ r.off ≤ 1048576) ∧ rowB { r with off := 0 } = true
  | [], p, _, _, _, h => h
  | b :: l, p, hb, h0, hs, h => by
    simp only [sumR, Int.natCast_add] at hs
    refine puts_rows (k := k) l { p with rows := p.rows ++ rowsF b p.fin, fin := p.fin + (b.recs.length : Int) } (fun x hx => hb x (List.mem_cons_of_mem _ hx)) (by show 0 ≤ p.fin + _; omega) (by show p.fin + _ + _ ≤ _; omega) (fun r hr => ?_)
    rcases List.mem_append.1 hr with hr | hr
    · exact h r hr
    · exact rowsF_ok (hb b (List.mem_cons_self ..)) (by omega) r hr
theorem step_bok {k : Nat} {p q : PartD} {e : EntD} (hM : FOkM k p) (hB : BOk p) (h : stepP p e = some q) : BOk q := by
  have ho := step_kind h
  have hM2 := step_okM hM h
  have hfin := hM.fin
  by_cases h0 : e.kind = 0
  · rw [step_data ho h0] at h
    cases ht : e.b.txn with
    | false =>
      obtain ⟨k1, k2, k3, rfl⟩ := (data_plain_iff ht hfin).1 h
      have hbb := (check_ok k1.err k1.dup).2.2.2
      refine ⟨fun r hr => ?_, fun o hoo => ?_⟩
      · rcases List.mem_append.1 hr with hr | hr
        · exact hB.rows r hr
        · exact rowsF_ok hbb (by omega) r hr
      · obtain ⟨x, hx, hl⟩ := hB.link o hoo
        have hne : e.b.pid ≠ o.pid := fun e1 => by
          have := getO_mem hM.ok.rise hoo
          rw [← e1, k2] at this; cases this
        exact ⟨x, by show findF (setF _ _) _ = _; rw [findF_set _ _ _ hne]; exact hx, hl⟩
    | true =>
      obtain ⟨k1, k2, rfl⟩ := (data_txn_iff ht).1 h
      refine ⟨hB.rows, fun o hoo => ?_⟩
      by_cases hp : o.pid = e.b.pid
      · have hg := getO_mem hM2.ok.rise hoo
        rw [hp] at hg
        refine ⟨_, ?_, link_take hM hB ht k1 k2 hg⟩
        show findF (setF _ _) _ = _
        rw [hp]
        exact findF_self (newP p.prods e.b (-1)) hM.may
      · have hoo' : o ∈ p.opens := by
          rcases mem_addO hoo with ⟨h, _⟩ | ⟨x, hx, e1⟩ | ⟨_, e1⟩ | ⟨h, _⟩
          · exact h
          · exfalso; apply hp; rw [e1]; exact getO_pid (pid := e.b.pid) (o := x) hx
          · exfalso; apply hp; rw [e1]
          · exact h
        obtain ⟨x, hx, hl⟩ := hB.link o hoo'
        exact ⟨x, by show findF (setF _ _) _ = _; rw [findF_set _ _ _ (fun e1 => hp e1.symm)]; exact hx, hl⟩
  by_cases h1 : e.kind = 1
  · rw [step_mark ho h1] at h
    obtain ⟨o, g1, g2, g3, rfl⟩ := mark_iff.1 h
    obtain ⟨x, hx, hl⟩ := hB.link o (mem_getO g1)
    refine ⟨?_, fun y hy => ?_⟩
    · show ∀ r ∈ (putsP p _).rows, _
      refine puts_rows (k := k) _ p (fun b hb => ?_) hfin.1 (by omega) hB.rows
      split at hb
      · exact (hl.bats b hb).1
      · simp at hb
    · have hyl : y ∈ delO e.b.pid p.opens := hy
      have hne : y.pid ≠ e.b.pid := fun e1 => by
        have h3 := getO_mem hM2.ok.rise hy
        have h4 := getO_delO_self e.b.pid p.opens hM.ok.rise
        rw [e1] at h3
        exact absurd (h3.symm.trans h4) (by simp)
      obtain ⟨z, hz, hzl⟩ := hB.link y (mem_delO hyl)
      exact ⟨z, by show findF (clearF _ _) _ = _; rw [findF_clr _ _ hne]; exact hz, hzl⟩
  · have hop := step_rest h h0 h1
    unfold stepP at h
    rw [ho, if_neg (by simp), if_neg h0, if_neg h1] at h
    split at h
    · split at h
      · cases h
      · cases h
        exact ⟨fun r hr => hB.rows r ((List.mem_filter.1 hr).1), hB.link⟩
    split at h
    · cases h
    split at h
    · cases h
    split at h
    · rename_i h5
      split at h
      · cases h
      · rename_i hx
        cases h
        refine ⟨fun r hr => ?_, hB.link⟩
        rcases List.mem_append.1 hr with hr | hr
        · exact hB.rows r hr
        · simp at hr
          subst hr
          refine ⟨⟨by show 0 ≤ p.fin; omega, by show p.fin ≤ _; omega⟩, ?_⟩
          simp only [okKind, Bool.and_eq_true, decide_eq_true_eq] at ho
          have hm2 := ho.2
          unfold mayI at hm2
          rw [if_neg (by omega), if_neg (by omega), if_neg (by omega), if_neg (by omega), if_neg (by omega), if_pos h5, Bool.and_eq_true] at hm2
          have h7 := hm2.1
          simp only [rowB, Bool.and_eq_true, beq_iff_eq] at h7 ⊢
          exact ⟨⟨⟨⟨⟨by trivial, h7.1.1.1.1.2⟩, h7.1.1.1.2⟩, h7.1.1.2⟩, h7.1.2⟩, h7.2⟩
    · split at h
      · cases h
      · rename_i hob
        cases h
        refine ⟨hB.rows, fun o hoo => ?_⟩
        obtain ⟨x, hx, hl⟩ := hB.link o hoo
        have hne : e.prod.pid ≠ o.pid := fun e1 => by
          have h3 := getO_mem hM.ok.rise hoo
          rcases openB_getO (l := p.opens) (pid := e.prod.pid) with ⟨h4, _⟩ | ⟨_, h4⟩
          · exact hob h4
          · rw [e1] at h4; rw [h3] at h4; cases h4
        exact ⟨x, by show findF (setF _ _) _ = _; rw [findF_set _ _ _ hne]; exact hx, hl⟩
theorem fold_bok : ∀ (l : List EntD) (k : Nat) (p p' : PartD), FOkM k p → BOk p → foldP p l = some p' → BOk p'
  | [], k, p, p', _, h, hm => by cases hm; exact h
  | e :: l, k, p, p', hM, h, hm => by
    unfold foldP at hm
    split at hm
    · rename_i q hq
      exact fold_bok l (k + 1) q p' (step_okM hM hq) (step_bok hM h hq) hm
    · cases hm
end Go.Proofs.YtafipkbffboebaaGreatDoor
namespace Go.Proofs.YtafipkbffboebaaGreatDoor
open Go Go.RowKit
set_option maxHeartbeats 4000000
set_option maxRecDepth 100000
set_option linter.unusedVariables false
set_option linter.unusedSimpArgs false
def earlyF (l : List OpenD) (q : ProdD) : ProdD := match getO q.pid l with
  | some o => (match o.bats with
    | b :: _ => ⟨q.pid, q.epoch, b.seq, q.seen.filter fun s => decide (s.seq < b.seq)⟩
    | [] => q)
  | none => q
def rowE (r : RowD) : EntD := ⟨5, batZ, false, 0, 0, { r with off := 0 }, prodZ⟩
def prodE (q : ProdD) : EntD := ⟨6, batZ, false, 0, 0, rowZ, q⟩
def batE (b : BatD) : EntD := ⟨0, b, false, 0, 0, rowZ, prodZ⟩
def logF (p : PartD) : List EntD := p.rows.map rowE ++ p.prods.map (fun q => prodE (earlyF p.opens q)) ++ p.opens.flatMap fun o => o.bats.map batE
def renumF : Int → List RowD → List RowD
  | _, [] => []
  | n, r :: l => { r with off := n } :: renumF (n + 1) l
theorem okKind_row {r : RowD} (h : rowB { r with off := 0 } = true) : okKind (rowE r) = true := by
  simp [okKind, mayI, rowE, h, zE]
theorem okKind_prod {q : ProdD} (h : knownB q = true) : okKind (prodE q) = true := by
  simp [okKind, mayI, prodE, h, zE, prodZ]
theorem okKind_bat {b : BatD} (h : batB b = true) : okKind (batE b) = true := by
  simp [okKind, mayI, batE, h, zE, batZ]
theorem fold_rows : ∀ (l : List RowD) (p : PartD), (∀ r ∈ l, rowB { r with off := 0 } = true) → p.fin + (l.length : Int) ≤ 1048576 → foldP p (l.map rowE) = some { p with rows := p.rows ++ renumF p.fin l, fin := p.fin + (l.length : Int) }
  | [], p, _, _ => by simp [foldP, renumF]
  | r :: l, p, h, hf => by
    rw [List.length_cons] at hf
    have ho := okKind_row (h r (List.mem_cons_self ..))
    have hs : stepP p (rowE r) = some { p with rows := p.rows ++ [{ r with off := p.fin }], fin := p.fin + 1 } := by
      have hk : (rowE r).kind = 5 := rfl
      unfold stepP
      rw [ho, if_neg (by simp), hk, if_neg (by decide), if_neg (by decide), if_neg (by decide), if_neg (by decide), if_neg (by decide), if_pos rfl, if_neg (by omega)]
      rfl
    rw [List.map_cons, foldP_one _ _ _ _ hs, fold_rows l _ (fun x hx => h x (List.mem_cons_of_mem _ hx)) (by show p.fin + 1 + _ ≤ _; omega)]
    simp only [renumF, List.append_assoc, List.cons_append, List.nil_append, List.length_cons, Int.natCast_add, Int.natCast_one]
    rw [Int.add_assoc, Int.add_comm 1]
theorem fold_prods : ∀ (l : List ProdD) (p : PartD), p.opens = [] → (∀ q ∈ l, knownB q = true) → foldP p (l.map prodE) = some { p with prods := l.foldl setF p.prods }
  | [], p, _, _ => rfl
  | q :: l, p, ho, h => by
    have hk := okKind_prod (h q (List.mem_cons_self ..))
    have hs : stepP p (prodE q) = some { p with prods := setF p.prods q } := by
      have hk6 : (prodE q).kind = 6 := rfl
      have hob : ¬ openB p.opens (prodE q).prod.pid = true := by rw [ho]; simp [openB]
      unfold stepP
      rw [hk, if_neg (by simp), hk6, if_neg (by decide), if_neg (by decide), if_neg (by decide), if_neg (by decide), if_neg (by decide), if_neg (by decide), if_neg hob]
      rfl
    rw [List.map_cons, foldP_one _ _ _ _ hs, fold_prods l { p with prods := setF p.prods q } ho (fun x hx => h x (List.mem_cons_of_mem _ hx))]
    rfl
theorem insP_last (q : ProdD) : ∀ l : List ProdD, (∀ x ∈ l, x.pid < q.pid) → insP q l = l ++ [q]
  | [], _ => rfl
  | x :: l, h => by
    have := h x (List.mem_cons_self ..)
    rw [insP, if_neg (by omega), insP_last q l (fun y hy => h y (List.mem_cons_of_mem _ hy))]; rfl
theorem set_all : ∀ (l a : List ProdD), (a ++ l).Pairwise (fun x y => x.pid < y.pid) → l.foldl setF a = a ++ l
  | [], a, _ => by simp
  | q :: l, a, h => by
    have h1 : ∀ x ∈ a, x.pid < q.pid := fun x hx => (List.pairwise_append.1 h).2.2 x hx q (List.mem_cons_self ..)
    rw [List.foldl_cons, setF_insP, insP_last q a h1, set_all l (a ++ [q]) (by rw [List.append_assoc]; exact h), List.append_assoc]; rfl
theorem mayR_rise : ∀ (l : List ProdD) (b : Int), mayR l b = true → l.Pairwise (fun x y => x.pid < y.pid)
  | [], _, _ => List.Pairwise.nil
  | x :: l, b, h => by
    rw [mayR, Bool.and_eq_true] at h
    exact List.Pairwise.cons (mayR_gt l x.pid h.2) (mayR_rise l x.pid h.2)
theorem mayR_map (f : ProdD → ProdD) (hp : ∀ x, (f x).pid = x.pid) : ∀ (l : List ProdD) (b : Int), (∀ x ∈ l, knownB (f x) = true) → mayR l b = true → mayR (l.map f) b = true
  | [], _, _, _ => rfl
  | x :: l, b, hk, h => by
    rw [mayR, Bool.and_eq_true] at h
    have h1 := h.1
    simp only [Bool.not_eq_true', Bool.or_eq_false_iff] at h1
    rw [List.map_cons, mayR, hp, mayR_map f hp l x.pid (fun y hy => hk y (List.mem_cons_of_mem _ hy)) h.2, hk x (List.mem_cons_self ..), h1.1]; rfl
theorem findF_map (f : ProdD → ProdD) (hp : ∀ x, (f x).pid = x.pid) (pid : Int) (q : ProdD) : ∀ l : List ProdD, findF l pid = (q, true) → findF (l.map f) pid = (f q, true)
  | [], h => by simp [findF] at h
  | x :: l, h => by
    rw [findF_cons] at h
    rw [List.map_cons, findF_cons, hp]
    split at h
    · rename_i hx; cases h; rw [if_pos hx]
    · rename_i hx; rw [if_neg hx]; exact findF_map f hp pid q l h
theorem insP_map (q : ProdD) : ∀ l : List ProdD, l.Pairwise (fun x y => x.pid < y.pid) → (∃ x ∈ l, x.pid = q.pid) → insP q l = l.map fun x => if x.pid = q.pid then q else x
  | [], _, h => by obtain ⟨x, hx, _⟩ := h; cases hx
  | x :: l, hp, h => by
    rw [List.pairwise_cons] at hp
    rw [insP, List.map_cons]
    by_cases h1 : x.pid = q.pid
    · rw [if_pos (by omega), if_pos h1, if_pos h1]
      congr 1
      symm
      rw [List.map_congr_left (g := id) (fun y hy => by have := hp.1 y hy; rw [if_neg (by omega)]; rfl)]
      simp
    · obtain ⟨y, hy, hyp⟩ := h
      rcases List.mem_cons.1 hy with rfl | hy
      · exact absurd hyp h1
      · have := hp.1 y hy
        rw [if_neg (by omega), if_neg h1, insP_map q l hp.2 ⟨y, hy, hyp⟩]
theorem insP_twice (p q : ProdD) (he : p.pid = q.pid) : ∀ l : List ProdD, insP q (insP p l) = insP q l
  | [] => by
    show insP q [p] = [q]
    rw [insP, if_pos (by omega), if_pos he]
  | x :: l => by
    have ih := insP_twice p q he l
    rw [insP]
    by_cases h1 : p.pid ≤ x.pid
    · rw [if_pos h1]
      by_cases h2 : x.pid = p.pid
      · rw [if_pos h2, insP, if_pos (by omega), if_pos he, insP, if_pos (by omega), if_pos (by omega)]
      · rw [if_neg h2, insP, if_pos (by omega), if_pos he, insP, if_pos (by omega), if_neg (by omega)]
    · rw [if_neg h1, insP, if_neg (by omega), ih, insP, if_neg (by omega)]
theorem setF_twice (l : List ProdD) (p q : ProdD) (he : p.pid = q.pid) : setF (setF l p) q = setF l q := by
  rw [setF_insP, setF_insP, setF_insP, insP_twice p q he]
/-- When a batch is taken. -/
theorem okT_of {l : List ProdD} {b : BatD} {q : ProdD} (hm : mayL l = true) (hb : batB b = true) (hf : findF l b.pid = (q, true)) (he : q.epoch = b.epoch) (hn : b.seq = q.next) : OkT l b ∧ oldS l b = q.seen := by
  have hk := may_known hm q (findF_mem hf)
  have hno : q.seen.find? (sameS b) = none := by
    rw [List.find?_eq_none]
    intro s hs
    have := known_lt hk s hs
    simp only [sameS, Bool.and_eq_true, beq_iff_eq, not_and]
    intro h; omega
  have heff : effP l b = q := by unfold effP; rw [hf]; simp [he]
  have hc : checkF l b = (-1, false, 0) := by
    unfold checkF judgeF
    rw [hm, hb, hf, heff]
    simp only [Bool.not_true, Bool.or_self, Bool.false_eq_true, if_false, Bool.true_and]
    rw [if_neg (by simp [he])]
    unfold dupF
    rw [hno]
    simp [hn]
  refine ⟨⟨by rw [hc], by rw [hc]⟩, ?_⟩
  unfold oldS; rw [hf]; simp [he]
theorem addO_last (b : BatD) : ∀ (l : List OpenD), (∀ x ∈ l, x.pid < b.pid) → addO b l = l ++ [⟨b.pid, b.epoch, [b]⟩]
  | [], _ => rfl
  | x :: l, h => by
    have := h x (List.mem_cons_self ..)
    rw [addO, if_neg (by omega), addO_last b l (fun y hy => h y (List.mem_cons_of_mem _ hy))]; rfl
theorem addO_last2 (b : BatD) (ep : Int) (pre : List BatD) : ∀ (l : List OpenD), (∀ x ∈ l, x.pid < b.pid) → addO b (l ++ [⟨b.pid, ep, pre⟩]) = l ++ [⟨b.pid, ep, pre ++ [b]⟩]
  | [], _ => by rw [List.nil_append, addO, if_pos (Int.le_refl _), if_pos rfl]; rfl
  | x :: l, h => by
    have := h x (List.mem_cons_self ..)
    rw [List.cons_append, addO, if_neg (by omega), addO_last2 b ep pre l (fun y hy => h y (List.mem_cons_of_mem _ hy))]; rfl
theorem getO_last (pid : Int) : ∀ (l : List OpenD), (∀ x ∈ l, x.pid < pid) → getO pid l = none
  | [], _ => rfl
  | x :: l, h => by
    have := h x (List.mem_cons_self ..)
    rw [getO, if_neg (by omega), getO_last pid l (fun y hy => h y (List.mem_cons_of_mem _ hy))]
theorem getO_last2 (o : OpenD) : ∀ (l : List OpenD), (∀ x ∈ l, x.pid < o.pid) → getO o.pid (l ++ [o]) = some o
  | [], _ => by rw [List.nil_append, getO, if_pos (Int.le_refl _), if_pos rfl]
  | x :: l, h => by
    have := h x (List.mem_cons_self ..)
    rw [List.cons_append, getO, if_neg (by omega), getO_last2 o l (fun y hy => h y (List.mem_cons_of_mem _ hy))]
/-- The batches that are left of a transaction, behind those that are there. -/
theorem refold_bats (o : OpenD) (S : List SeenD) (e : Int) (done : List OpenD) (l : List ProdD) (hd : ∀ x ∈ done, x.pid < o.pid) (hml : mayL l = true)
    (hbats : ∀ b ∈ o.bats, batB b = true ∧ b.txn = true ∧ b.pid = o.pid ∧ b.epoch = o.epoch) (hlen : o.bats.length ≤ 8) :
    ∀ (rest pre : List BatD) (at_ : Int) (p : PartD), pre ≠ [] → o.bats = pre ++ rest → chainS at_ rest e →
      p.opens = done ++ [⟨o.pid, o.epoch, pre⟩] → p.prods = setF l ⟨o.pid, o.epoch, at_, last3 (S ++ pre.map seenB)⟩ → knownB ⟨o.pid, o.epoch, at_, last3 (S ++ pre.map seenB)⟩ = true →
      foldP p (rest.map batE) = some { p with opens := done ++ [o], prods := setF l ⟨o.pid, o.epoch, e, last3 (S ++ o.bats.map seenB)⟩ }
  | [], pre, at_, p, _, hsp, hch, ho, hp, _ => by
    rw [List.append_nil] at hsp
    rw [show at_ = e from hch, ← hsp] at hp
    rw [← hsp] at ho
    show some p = _
    rw [← hp, ← ho]
  | b :: rest, pre, at_, p, hne, hsp, hch, ho, hp, hk => by
    obtain ⟨hb1, hb2, hb3, hb4⟩ := hbats b (by rw [hsp]; simp)
    have hm : mayL p.prods = true := by rw [hp]; exact may_set hml hk
    have hf : findF p.prods b.pid = (⟨o.pid, o.epoch, at_, last3 (S ++ pre.map seenB)⟩, true) := by
      rw [hp, hb3]
      exact findF_self ⟨o.pid, o.epoch, at_, last3 (S ++ pre.map seenB)⟩ hml
    obtain ⟨hok, hold⟩ := okT_of hm hb1 hf hb4.symm hch.1
    have hnew : newP p.prods b (-1) = ⟨o.pid, o.epoch, behF b, last3 (S ++ (pre ++ [b]).map seenB)⟩ := by
      unfold newP
      rw [newS_last3, hold, hb3, hb4, last3_app, List.map_append, List.append_assoc]; rfl
    have hg : getO b.pid p.opens = some ⟨o.pid, o.epoch, pre⟩ := by
      rw [ho, hb3]
      exact getO_last2 ⟨o.pid, o.epoch, pre⟩ done hd
    have hpl : pre.length < 8 := by
      have : o.bats.length = pre.length + (rest.length + 1) := by rw [hsp, List.length_append, List.length_cons]
      omega
    have hstep : stepP p (batE b) = some { p with prods := setF p.prods (newP p.prods b (-1)), opens := addO b p.opens } := by
      rw [step_data (okKind_bat hb1) rfl]
      exact (data_txn_iff hb2).2 ⟨hok, fun x hx => (by rw [hg] at hx; cases hx; exact ⟨hb4.symm, hpl⟩), rfl⟩
    have hadd : addO b p.opens = done ++ [⟨o.pid, o.epoch, pre ++ [b]⟩] := by
      rw [ho]
      have := addO_last2 b o.epoch pre done (fun x hx => by rw [hb3]; exact hd x hx)
      rw [hb3] at this
      exact this
    have hkn := hok.known (-1) (by omega)
    rw [List.map_cons, foldP_one _ _ _ _ hstep]
    rw [hnew] at hkn
    have hset : setF p.prods (newP p.prods b (-1)) = setF l ⟨o.pid, o.epoch, behF b, last3 (S ++ (pre ++ [b]).map seenB)⟩ := by
      rw [hnew, hp]
      exact setF_twice l ⟨o.pid, o.epoch, at_, last3 (S ++ pre.map seenB)⟩ ⟨o.pid, o.epoch, behF b, last3 (S ++ (pre ++ [b]).map seenB)⟩ rfl
    rw [refold_bats o S e done l hd hml hbats hlen rest (pre ++ [b]) (behF b) _ (by simp) (by rw [hsp, List.append_assoc]; rfl) hch.2 hadd hset hkn]
/-- A transaction whose producer stands ahead of it. -/
theorem refold_open (o : OpenD) (q : ProdD) (S : List SeenD) (done : List OpenD) (p : PartD) (hd : ∀ x ∈ done, x.pid < o.pid) (hm : mayL p.prods = true) (hne : o.bats ≠ [])
    (hbats : ∀ b ∈ o.bats, batB b = true ∧ b.txn = true ∧ b.pid = o.pid ∧ b.epoch = o.epoch) (hlen : o.bats.length ≤ 8) (hch : chainS (seqO o) o.bats q.next) (hS : S.length ≤ 3)
    (hf : findF p.prods o.pid = (⟨o.pid, o.epoch, seqO o, S⟩, true)) (hq : q = ⟨o.pid, o.epoch, q.next, last3 (S ++ o.bats.map seenB)⟩) (ho : p.opens = done) :
    foldP p (o.bats.map batE) = some { p with opens := done ++ [o], prods := setF p.prods q } := by
  cases hbs : o.bats with
  | nil => exact absurd hbs hne
  | cons b rest =>
    obtain ⟨hb1, hb2, hb3, hb4⟩ := hbats b (by rw [hbs]; simp)
    rw [hbs] at hch
    have hsq : b.seq = seqO o := hch.1
    rw [← hb3] at hf
    obtain ⟨hok, hold⟩ := okT_of hm hb1 hf hb4.symm hsq
    have hnew : newP p.prods b (-1) = ⟨o.pid, o.epoch, behF b, last3 (S ++ [b].map seenB)⟩ := by
      unfold newP
      rw [newS_last3, hold, hb3, hb4]; rfl
    have hg : getO b.pid p.opens = none := by
      rw [ho, hb3]; exact getO_last o.pid done hd
    have hstep : stepP p (batE b) = some { p with prods := setF p.prods (newP p.prods b (-1)), opens := addO b p.opens } := by
      rw [step_data (okKind_bat hb1) rfl]
      exact (data_txn_iff hb2).2 ⟨hok, fun x hx => (by rw [hg] at hx; cases hx), rfl⟩
    have hadd : addO b p.opens = done ++ [⟨o.pid, o.epoch, [b]⟩] := by
      rw [ho, addO_last b done (fun x hx => by rw [hb3]; exact hd x hx), hb3, hb4]
    have hkn := hok.known (-1) (by omega)
    rw [hnew] at hkn
    rw [List.map_cons, foldP_one _ _ _ _ hstep]
    rw [refold_bats o S q.next done p.prods hd hm hbats hlen rest [b] (behF b) _ (by simp) hbs hch.2 hadd (by rw [hnew]) hkn]
    rw [← hq]
theorem chain_le : ∀ (l : List BatD) (s e : Int), (∀ b ∈ l, batB b = true) → chainS s l e → ∀ b ∈ l, s ≤ b.seq
  | [], _, _, _, _, b, hb => by cases hb
  | x :: l, s, e, h, hch, b, hb => by
    have hx := h x (List.mem_cons_self ..)
    have hbeh : behF x = x.seq + (x.recs.length : Int) := by
      unfold batB at hx
      simp only [Bool.and_eq_true, Bool.not_eq_true', Bool.or_eq_false_iff, decide_eq_false_iff_not] at hx
      exact wrap_i64 (by omega)
    rcases List.mem_cons.1 hb with rfl | hb
    · have := hch.1; omega
    · have := chain_le l (behF x) e (fun y hy => h y (List.mem_cons_of_mem _ hy)) hch.2 b hb
      have := hch.1
      omega
theorem chk_mid : ∀ (A C : List SeenD) (x : SeenD) (b : Int), chkR (A ++ x :: C) b = true → chkR C x.seq = true
  | [], C, x, b, h => by rw [List.nil_append, chkR, Bool.and_eq_true] at h; exact h.2
  | a :: A, C, x, b, h => by rw [List.cons_append, chkR, Bool.and_eq_true] at h; exact chk_mid A C x a.seq h.2
/-- What was seen ahead of a transaction. -/
theorem early_ok {q : ProdD} {o : OpenD} (hl : Link q o) (hk : knownB q = true) :
    last3 (q.seen.filter (fun s => decide (s.seq < seqO o)) ++ o.bats.map seenB) = q.seen ∧ knownB ⟨q.pid, q.epoch, seqO o, q.seen.filter fun s => decide (s.seq < seqO o)⟩ = true := by
  obtain ⟨S, hS, hseen⟩ := hl.seen
  have hge := chain_le o.bats (seqO o) q.next (fun b hb => (hl.bats b hb).1) hl.chain
  obtain ⟨B, hB⟩ : ∃ B, B = o.bats.map seenB := ⟨_, rfl⟩
  rw [← hB] at hseen ⊢
  have hBge : ∀ s ∈ B, ¬ s.seq < seqO o := fun s hs => by
    rw [hB] at hs
    obtain ⟨b, hb, rfl⟩ := List.mem_map.1 hs
    have := hge b hb
    show ¬ b.seq < seqO o
    omega
  obtain ⟨n, hn⟩ : ∃ n, n = S.length + B.length - 3 := ⟨_, rfl⟩
  have hsplit : q.seen = S.drop n ++ B.drop (n - S.length) := by
    rw [hseen]
    unfold last3
    rw [List.length_append, ← hn, List.drop_append]
  have hfil : q.seen.filter (fun s => decide (s.seq < seqO o)) = S.drop n := by
    rw [hsplit, List.filter_append]
    rw [List.filter_eq_self.2 (fun s hs => by simpa using hS s (List.mem_of_mem_drop hs))]
    rw [List.filter_eq_nil_iff.2 (fun s hs => by simpa using hBge s (List.mem_of_mem_drop hs)), List.append_nil]
  rw [hfil]
  have hb0 : ∃ b rest, o.bats = b :: rest := by
    cases hbs : o.bats with
    | nil => exact absurd hbs hl.some
    | cons b rest => exact ⟨b, rest, rfl⟩
  obtain ⟨b, rest, hbs⟩ := hb0
  have hsq : seqO o = b.seq := by unfold seqO; rw [hbs]
  refine ⟨?_, ?_⟩
  · rw [hsplit]
    unfold last3
    rw [List.length_append, List.length_drop, List.drop_append, List.length_drop, List.drop_drop]
    by_cases h3 : 3 ≤ B.length
    · have z1 : S.drop n = [] := List.drop_eq_nil_of_le (by omega)
      have z2 : S.drop (n + (S.length - n + B.length - 3)) = [] := List.drop_eq_nil_of_le (by omega)
      rw [z1, z2, show S.length - n + B.length - 3 - (S.length - n) = n - S.length by omega]
    · rw [show S.length - n + B.length - 3 = 0 by omega, Nat.add_zero, show n - S.length = 0 by omega, Nat.zero_sub]
  · have hbb := (hl.bats b (by rw [hbs]; simp)).1
    unfold batB at hbb
    simp only [Bool.and_eq_true, Bool.not_eq_true', Bool.or_eq_false_iff, decide_eq_false_iff_not] at hbb
    unfold knownB at hk ⊢
    rw [Bool.and_eq_true] at hk ⊢
    refine ⟨?_, ?_⟩
    · have h1 := hk.1
      unfold headBad at h1 ⊢
      simp only [Bool.not_eq_true', Bool.or_eq_false_iff, Bool.not_eq_false', decide_eq_false_iff_not] at h1 ⊢
      have hlen : (S.drop n).length ≤ q.seen.length := by rw [hsplit, List.length_append]; omega
      refine ⟨⟨h1.1.1, ?_⟩, by omega⟩
      rw [hsq]
      simp only [withB, Bool.and_eq_true, decide_eq_true_eq]
      omega
    · by_cases he : S.drop n = []
      · rw [he]; rfl
      · have hlt : n < S.length := Decidable.byContradiction fun h => he (List.drop_eq_nil_of_le (by omega))
        have h2 := hk.2
        rw [hsplit, show n - S.length = 0 by omega, List.drop_zero, List.reverse_append, hB, hbs, List.map_cons, List.reverse_cons, List.append_assoc, List.cons_append, List.nil_append] at h2
        rw [hsq]
        exact chk_mid _ _ (seenB b) _ h2
theorem findF_at : ∀ (l : List ProdD) (x : ProdD), l.Pairwise (fun a b => a.pid < b.pid) → x ∈ l → findF l x.pid = (x, true)
  | [], _, _, h => by cases h
  | y :: l, x, hp, h => by
    rw [List.pairwise_cons] at hp
    rw [findF_cons]
    rcases List.mem_cons.1 h with rfl | h
    · rw [if_pos rfl]
    · have := hp.1 x h
      rw [if_neg (by omega)]
      exact findF_at l x hp.2 h
theorem early_pid (l : List OpenD) (q : ProdD) : (earlyF l q).pid = q.pid := by
  unfold earlyF
  split
  · split <;> rfl
  · rfl
def mixF (all os : List OpenD) (q : ProdD) : ProdD := if (os.any fun o => decide (o.pid = q.pid)) = true then earlyF all q else q
theorem mix_pid (all os : List OpenD) (q : ProdD) : (mixF all os q).pid = q.pid := by
  unfold mixF
  split
  · exact early_pid all q
  · rfl
theorem early_link {l : List OpenD} {q : ProdD} {o : OpenD} (hp : l.Pairwise (fun a b => a.pid < b.pid)) (ho : o ∈ l) (hl : Link q o) : earlyF l q = ⟨q.pid, q.epoch, seqO o, q.seen.filter fun s => decide (s.seq < seqO o)⟩ := by
  have hg := getO_mem hp ho
  rw [← hl.pid] at hg
  unfold earlyF
  rw [hg]
  cases hbs : o.bats with
  | nil => exact absurd hbs hl.some
  | cons b rest =>
    have hsq : seqO o = b.seq := by unfold seqO; rw [hbs]
    rw [hsq]
    simp only [hbs]
theorem early_all {all : List OpenD} (q : ProdD) : earlyF all q = mixF all all q := by
  unfold mixF
  split
  · rfl
  · rename_i h
    have hn : getO q.pid all = none := by
      cases hg : getO q.pid all with
      | none => rfl
      | some o =>
        exfalso; apply h
        rw [List.any_eq_true]
        exact ⟨o, mem_getO hg, by simpa using getO_pid hg⟩
    unfold earlyF
    rw [hn]
theorem mix_known {k : Nat} {p : PartD} (hM : FOkM k p) (hB : BOk p) {os : List OpenD} (hos : ∀ o ∈ os, o ∈ p.opens) : ∀ x ∈ p.prods, knownB (mixF p.opens os x) = true := fun x hx => by
  have hkx := may_known hM.may x hx
  have hrise := mayR_rise p.prods 0 hM.may
  unfold mixF
  split
  · rename_i h
    rw [List.any_eq_true] at h
    obtain ⟨o, ho, hpid⟩ := h
    have hpid : o.pid = x.pid := by simpa using hpid
    obtain ⟨q, hq, hl⟩ := hB.link o (hos o ho)
    rw [hpid, findF_at p.prods x hrise hx] at hq
    cases hq
    rw [early_link hM.ok.rise (hos o ho) hl]
    exact (early_ok hl hkx).2
  · exact hkx
theorem refold_opens {k : Nat} {p0 : PartD} (hM : FOkM k p0) (hB : BOk p0) : ∀ (os done : List OpenD) (p : PartD), p0.opens = done ++ os → p.opens = done → p.prods = p0.prods.map (mixF p0.opens os) →
    foldP p (os.flatMap fun o => o.bats.map batE) = some { p with opens := p0.opens, prods := p0.prods }
  | [], done, p, h1, h2, h3 => by
    have hid : p0.prods.map (mixF p0.opens []) = p0.prods := by
      rw [List.map_congr_left (g := id) (fun x _ => by simp [mixF])]; simp
    rw [hid] at h3
    rw [List.append_nil] at h1
    show some p = _
    rw [h1, ← h2, ← h3]
  | o :: os, done, p, h1, h2, h3 => by
    have hrise := mayR_rise p0.prods 0 hM.may
    have hop := hM.ok.rise
    rw [h1] at hop
    have hoo : o ∈ p0.opens := by rw [h1]; simp
    have hos : ∀ x ∈ o :: os, x ∈ p0.opens := fun x hx => by rw [h1]; exact List.mem_append_right _ hx
    obtain ⟨q, hq, hl⟩ := hB.link o hoo
    have hqm := findF_mem hq
    have hkq := may_known hM.may q hqm
    obtain ⟨e1, e2⟩ := early_ok hl hkq
    have hd : ∀ x ∈ done, x.pid < o.pid := fun x hx => (List.pairwise_append.1 hop).2.2 x hx o (List.mem_cons_self ..)
    have hafter : ∀ x ∈ os, o.pid < x.pid := (List.pairwise_cons.1 (List.pairwise_append.1 hop).2.1).1
    have hm : mayL p.prods = true := by
      rw [h3]
      exact mayR_map _ (mix_pid p0.opens (o :: os)) p0.prods 0 (mix_known hM hB hos) hM.may
    have hmixq : mixF p0.opens (o :: os) q = ⟨o.pid, o.epoch, seqO o, q.seen.filter fun s => decide (s.seq < seqO o)⟩ := by
      unfold mixF
      rw [if_pos (by simp [hl.pid]), early_link hM.ok.rise hoo hl, hl.pid, hl.epoch]
    have hf : findF p.prods o.pid = (⟨o.pid, o.epoch, seqO o, q.seen.filter fun s => decide (s.seq < seqO o)⟩, true) := by
      rw [h3, findF_map _ (mix_pid p0.opens (o :: os)) o.pid q p0.prods hq, hmixq]
    have hS : (q.seen.filter fun s => decide (s.seq < seqO o)).length ≤ 3 := Nat.le_trans (List.length_filter_le ..) (known_seen hkq)
    have hqe : q = ⟨o.pid, o.epoch, q.next, last3 ((q.seen.filter fun s => decide (s.seq < seqO o)) ++ o.bats.map seenB)⟩ := by
      rw [e1, ← hl.pid, ← hl.epoch]
    have hone := refold_open o q _ done p hd hm hl.some hl.bats (hM.bats o hoo) hl.chain hS hf hqe h2
    rw [List.flatMap_cons, foldP_app, hone]
    simp only
    refine refold_opens hM hB os (done ++ [o]) _ (by rw [h1, List.append_assoc]; rfl) rfl ?_
    show setF p.prods q = _
    rw [h3, setF_insP, insP_map q _ (by
      rw [List.pairwise_map]
      exact hrise.imp (fun {a b} h => by rw [mix_pid, mix_pid]; exact h)) ⟨_, List.mem_map.2 ⟨q, hqm, rfl⟩, mix_pid _ _ _⟩, List.map_map]
    refine List.map_congr_left (fun x hx => ?_)
    show (if (mixF p0.opens (o :: os) x).pid = q.pid then q else mixF p0.opens (o :: os) x) = _
    rw [mix_pid]
    by_cases hx2 : x.pid = q.pid
    · rw [if_pos hx2]
      have hxq : x = q := by
        have a1 := findF_at p0.prods x hrise hx
        have a2 := findF_at p0.prods q hrise hqm
        rw [hx2, a2] at a1
        cases a1; rfl
      rw [hxq]
      unfold mixF
      rw [if_neg]
      rw [List.any_eq_true]
      rintro ⟨y, hy, hyp⟩
      have := hafter y hy
      have hyp : y.pid = q.pid := by simpa using hyp
      rw [hl.pid] at hyp
      omega
    · rw [if_neg hx2]
      unfold mixF
      rw [List.any_cons, show decide (o.pid = x.pid) = false from decide_eq_false (fun e => hx2 (by rw [hl.pid]; exact e.symm)), Bool.false_or]
def backP (p : PartD) : PartD := ⟨0, (p.rows.length : Int), renumF 0 p.rows, p.opens, p.prods⟩
theorem log_fold {k : Nat} {p : PartD} (hM : FOkM k p) (hB : BOk p) (hk : k ≤ 200) : foldP pZ (logF p) = some (backP p) := by
  have hrow := hM.rows
  unfold logF
  rw [List.append_assoc, foldP_app, fold_rows p.rows pZ (fun r hr => (hB.rows r hr).2) (by show (0 : Int) + _ ≤ _; omega)]
  simp only
  rw [foldP_app, show (p.prods.map fun q => prodE (earlyF p.opens q)) = (p.prods.map (earlyF p.opens)).map prodE by rw [List.map_map]; rfl]
  have hmap : p.prods.map (earlyF p.opens) = p.prods.map (mixF p.opens p.opens) := List.map_congr_left (fun x _ => early_all x)
  rw [fold_prods _ _ rfl (fun q hq => by
    rw [hmap] at hq
    obtain ⟨x, hx, rfl⟩ := List.mem_map.1 hq
    exact mix_known hM hB (fun o ho => ho) x hx)]
  simp only
  have hset : (p.prods.map (earlyF p.opens)).foldl setF pZ.prods = p.prods.map (mixF p.opens p.opens) := by
    rw [hmap]
    have := set_all (p.prods.map (mixF p.opens p.opens)) [] (by
      rw [List.nil_append, List.pairwise_map]
      exact (mayR_rise p.prods 0 hM.may).imp (fun {a b} h => by rw [mix_pid, mix_pid]; exact h))
    rw [List.nil_append] at this
    exact this
  rw [hset, refold_opens hM hB p.opens [] _ rfl rfl rfl]
  simp only [backP, pZ, List.nil_append, Int.zero_add]
theorem renum_row : ∀ (l : List RowD) (n : Int), (renumF n l).map rowE = l.map rowE
  | [], _ => rfl
  | r :: l, n => by rw [renumF, List.map_cons, List.map_cons, renum_row l]; rfl
theorem renum_len : ∀ (l : List RowD) (n : Int), (renumF n l).length = l.length
  | [], _ => rfl
  | r :: l, n => by rw [renumF, List.length_cons, List.length_cons, renum_len l]
theorem renum_get : ∀ (l : List RowD) (n : Int) (i : Nat), (renumF n l)[i]? = (l[i]?).map fun r => { r with off := n + (i : Int) }
  | [], _, _ => rfl
  | r :: l, n, 0 => by simp [renumF]
  | r :: l, n, i + 1 => by
    rw [renumF, List.getElem?_cons_succ, List.getElem?_cons_succ, renum_get l (n + 1) i]
    rw [show n + 1 + (i : Int) = n + ((i + 1 : Nat) : Int) by omega]
theorem log_back (p : PartD) : logF (backP p) = logF p := by
  unfold logF backP
  simp only [renum_row]
end Go.Proofs.YtafipkbffboebaaGreatDoor
