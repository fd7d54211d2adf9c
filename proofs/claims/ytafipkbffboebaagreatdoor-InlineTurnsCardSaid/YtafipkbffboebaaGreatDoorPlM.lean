/- The abstract machine (PlB, PlC, PlD, PlE). -/
import Derived.Test.YtafipkbffboebaaGreatDoorRgM
namespace Go.Proofs.YtafipkbffboebaaGreatDoor
open Go Go.RowKit
set_option maxHeartbeats 4000000
set_option maxRecDepth 100000
set_option linter.unusedVariables false
set_option linter.unusedSimpArgs false
/-- Behind its producer's open transaction, or a new one. -/
def addO (b : BatD) : List OpenD → List OpenD
  | [] => [⟨b.pid, b.epoch, [b]⟩]
  | x :: l => if b.pid ≤ x.pid then (if x.pid = b.pid then ⟨x.pid, x.epoch, x.bats ++ [b]⟩ :: l else ⟨b.pid, b.epoch, [b]⟩ :: x :: l) else x :: addO b l
def delO (pid : Int) : List OpenD → List OpenD
  | [] => []
  | x :: l => if pid ≤ x.pid then (if x.pid = pid then l else x :: l) else x :: delO pid l
def getO (pid : Int) : List OpenD → Option OpenD
  | [] => none
  | x :: l => if pid ≤ x.pid then (if x.pid = pid then some x else none) else getO pid l
theorem openI_cons (x : OpenD) (l : List OpenD) (pid : Int) : openI (x :: l) pid = if pid ≤ x.pid then 0 else openI l pid + 1 := by
  unfold openI
  rw [List.findIdx_cons]
  by_cases h : pid ≤ x.pid <;> simp [h]
theorem openB_cons (x : OpenD) (l : List OpenD) (pid : Int) : openB (x :: l) pid = if pid ≤ x.pid then x.pid == pid else openB l pid := by
  unfold openB
  rw [openI_cons]
  by_cases h : pid ≤ x.pid <;> simp [h]
theorem getO_eq (pid : Int) : ∀ l : List OpenD, getO pid l = match openB l pid, l[openI l pid]? with
    | true, some o => some o
    | _, _ => none
  | [] => by simp [getO, openB]
  | x :: l => by
    have ih := getO_eq pid l
    rw [openI_cons, openB_cons, getO]
    by_cases h : pid ≤ x.pid
    · by_cases h2 : x.pid = pid
      · simp [h2]
      · have h3 : (x.pid == pid) = false := by simpa using h2
        simp [h, h2, h3]
    · simp only [h, if_false, ih, List.getElem?_cons_succ]
theorem addO_none (b : BatD) : ∀ l : List OpenD, getO b.pid l = none → l.take (openI l b.pid) ++ (⟨b.pid, b.epoch, [b]⟩ : OpenD) :: l.drop (openI l b.pid) = addO b l
  | [], _ => rfl
  | x :: l, h => by
    have ih := addO_none b l
    rw [getO] at h
    rw [openI_cons, addO]
    by_cases h1 : b.pid ≤ x.pid
    · rw [if_pos h1] at h
      by_cases h2 : x.pid = b.pid
      · rw [if_pos h2] at h; cases h
      · simp [h1, h2]
    · rw [if_neg h1] at h
      simp [h1, ih h]
theorem addO_some (b : BatD) (o : OpenD) : ∀ l : List OpenD, getO b.pid l = some o → l.set (openI l b.pid) ⟨o.pid, o.epoch, o.bats ++ [b]⟩ = addO b l
  | [], h => by cases h
  | x :: l, h => by
    have ih := addO_some b o l
    rw [getO] at h
    rw [openI_cons, addO]
    by_cases h1 : b.pid ≤ x.pid
    · rw [if_pos h1] at h
      by_cases h2 : x.pid = b.pid
      · rw [if_pos h2] at h; cases h; simp [h2]
      · rw [if_neg h2] at h; cases h
    · rw [if_neg h1] at h
      simp [h1, ih h]
theorem delO_eq (pid : Int) (o : OpenD) : ∀ l : List OpenD, getO pid l = some o → l.take (openI l pid) ++ l.drop (openI l pid + 1) = delO pid l
  | [], h => by cases h
  | x :: l, h => by
    have ih := delO_eq pid o l
    rw [getO] at h
    rw [openI_cons, delO]
    by_cases h1 : pid ≤ x.pid
    · rw [if_pos h1] at h
      by_cases h2 : x.pid = pid
      · simp [h2]
      · rw [if_neg h2] at h; cases h
    · rw [if_neg h1] at h
      simp [h1, ih h]
theorem addO_comm (a b : BatD) (hne : a.pid ≠ b.pid) : ∀ l : List OpenD, addO a (addO b l) = addO b (addO a l)
  | [] => by
    simp only [addO]
    by_cases h1 : a.pid ≤ b.pid
    · rw [if_pos h1, if_neg (by omega), if_neg (by omega)]
    · rw [if_neg h1, if_pos (by omega), if_neg (by omega)]
  | x :: l => by
    have ih := addO_comm a b hne l
    rcases Int.lt_trichotomy a.pid x.pid with ha | ha | ha <;> rcases Int.lt_trichotomy b.pid x.pid with hb | hb | hb
    · have e1 : addO b (x :: l) = ⟨b.pid, b.epoch, [b]⟩ :: x :: l := by rw [addO, if_pos (by omega), if_neg (by omega)]
      have e2 : addO a (x :: l) = ⟨a.pid, a.epoch, [a]⟩ :: x :: l := by rw [addO, if_pos (by omega), if_neg (by omega)]
      rw [e1, e2]
      rcases Int.lt_or_le a.pid b.pid with h | h
      · rw [addO, if_pos (show a.pid ≤ b.pid by omega), if_neg (show ¬ b.pid = a.pid by omega), addO, if_neg (show ¬ b.pid ≤ a.pid by omega), e1]
      · rw [addO, if_neg (show ¬ a.pid ≤ b.pid by omega), e2, addO, if_pos (show b.pid ≤ a.pid by omega), if_neg (show ¬ a.pid = b.pid by omega)]
    · have e1 : addO b (x :: l) = ⟨x.pid, x.epoch, x.bats ++ [b]⟩ :: l := by rw [addO, if_pos (by omega), if_pos (by omega)]
      have e2 : addO a (x :: l) = ⟨a.pid, a.epoch, [a]⟩ :: x :: l := by rw [addO, if_pos (by omega), if_neg (by omega)]
      rw [e1, e2, addO, if_pos (show a.pid ≤ x.pid by omega), if_neg (show ¬ x.pid = a.pid by omega), addO, if_neg (show ¬ b.pid ≤ a.pid by omega), e1]
    · have e1 : addO b (x :: l) = x :: addO b l := by rw [addO, if_neg (by omega)]
      have e2 : addO a (x :: l) = ⟨a.pid, a.epoch, [a]⟩ :: x :: l := by rw [addO, if_pos (by omega), if_neg (by omega)]
      rw [e1, e2, addO, if_pos (show a.pid ≤ x.pid by omega), if_neg (show ¬ x.pid = a.pid by omega), addO, if_neg (show ¬ b.pid ≤ a.pid by omega), e1]
    · have e1 : addO b (x :: l) = ⟨b.pid, b.epoch, [b]⟩ :: x :: l := by rw [addO, if_pos (by omega), if_neg (by omega)]
      have e2 : addO a (x :: l) = ⟨x.pid, x.epoch, x.bats ++ [a]⟩ :: l := by rw [addO, if_pos (by omega), if_pos (by omega)]
      rw [e1, e2, addO, if_neg (show ¬ a.pid ≤ b.pid by omega), e2, addO, if_pos (show b.pid ≤ x.pid by omega), if_neg (show ¬ x.pid = b.pid by omega)]
    · omega
    · have e1 : addO b (x :: l) = x :: addO b l := by rw [addO, if_neg (by omega)]
      have e2 : addO a (x :: l) = ⟨x.pid, x.epoch, x.bats ++ [a]⟩ :: l := by rw [addO, if_pos (by omega), if_pos (by omega)]
      rw [e1, e2, addO, if_pos (show a.pid ≤ x.pid by omega), if_pos (show x.pid = a.pid by omega), addO, if_neg (show ¬ b.pid ≤ x.pid by omega)]
    · have e1 : addO b (x :: l) = ⟨b.pid, b.epoch, [b]⟩ :: x :: l := by rw [addO, if_pos (by omega), if_neg (by omega)]
      have e2 : addO a (x :: l) = x :: addO a l := by rw [addO, if_neg (by omega)]
      rw [e1, e2, addO, if_neg (show ¬ a.pid ≤ b.pid by omega), e2, addO, if_pos (show b.pid ≤ x.pid by omega), if_neg (show ¬ x.pid = b.pid by omega)]
    · have e1 : addO b (x :: l) = ⟨x.pid, x.epoch, x.bats ++ [b]⟩ :: l := by rw [addO, if_pos (by omega), if_pos (by omega)]
      have e2 : addO a (x :: l) = x :: addO a l := by rw [addO, if_neg (by omega)]
      rw [e1, e2, addO, if_neg (show ¬ a.pid ≤ x.pid by omega), addO, if_pos (show b.pid ≤ x.pid by omega), if_pos (show x.pid = b.pid by omega)]
    · have e1 : addO b (x :: l) = x :: addO b l := by rw [addO, if_neg (by omega)]
      have e2 : addO a (x :: l) = x :: addO a l := by rw [addO, if_neg (by omega)]
      rw [e1, e2, addO, if_neg (by omega), ih, addO, if_neg (by omega)]
theorem delO_addO (a : BatD) (q : Int) (hne : a.pid ≠ q) : ∀ l : List OpenD, l.Pairwise (fun a b => a.pid < b.pid) → delO q (addO a l) = addO a (delO q l)
  | [], _ => by
    simp only [addO, delO]
    by_cases h1 : q ≤ a.pid
    · rw [if_pos h1, if_neg hne]
    · rw [if_neg h1]
  | x :: l, hp => by
    rw [List.pairwise_cons] at hp
    have ih := delO_addO a q hne l hp.2
    have hd : delO q (x :: l) = if q ≤ x.pid then (if x.pid = q then l else x :: l) else x :: delO q l := rfl
    rcases Int.lt_trichotomy a.pid x.pid with ha | ha | ha
    · have e2 : addO a (x :: l) = ⟨a.pid, a.epoch, [a]⟩ :: x :: l := by rw [addO, if_pos (by omega), if_neg (by omega)]
      rw [e2, delO]
      by_cases h1 : q ≤ a.pid
      · rw [if_pos h1, if_neg hne, hd, if_pos (by omega), if_neg (by omega), e2]
      · rw [if_neg h1, hd]
        by_cases h2 : q ≤ x.pid
        · rw [if_pos h2]
          by_cases h3 : x.pid = q
          · rw [if_pos h3]
            cases l with
            | nil => rfl
            | cons y l =>
              have := hp.1 y (List.mem_cons_self ..)
              rw [addO, if_pos (by omega), if_neg (by omega)]
          · rw [if_neg h3, e2]
        · rw [if_neg h2, addO, if_pos (by omega), if_neg (by omega)]
    · have e2 : addO a (x :: l) = ⟨x.pid, x.epoch, x.bats ++ [a]⟩ :: l := by rw [addO, if_pos (by omega), if_pos (by omega)]
      rw [e2, delO, hd]
      by_cases h2 : q ≤ x.pid
      · rw [if_pos h2, if_neg (show ¬ x.pid = q by omega), if_pos h2, if_neg (by omega), e2]
      · rw [if_neg h2, if_neg h2, addO, if_pos (by omega), if_pos (by omega)]
    · have e2 : addO a (x :: l) = x :: addO a l := by rw [addO, if_neg (by omega)]
      rw [e2, delO, hd]
      by_cases h2 : q ≤ x.pid
      · rw [if_pos h2, if_pos h2]
        by_cases h3 : x.pid = q
        · rw [if_pos h3, if_pos h3]
        · rw [if_neg h3, if_neg h3, e2]
      · rw [if_neg h2, if_neg h2, addO, if_neg (by omega), ih]
theorem getO_addO (a : BatD) (q : Int) (hne : a.pid ≠ q) : ∀ l : List OpenD, getO q (addO a l) = getO q l
  | [] => by
    simp only [addO, getO]
    by_cases h1 : q ≤ a.pid
    · rw [if_pos h1, if_neg hne]
    · rw [if_neg h1]
  | x :: l => by
    have ih := getO_addO a q hne l
    have hd : getO q (x :: l) = if q ≤ x.pid then (if x.pid = q then some x else none) else getO q l := rfl
    rcases Int.lt_trichotomy a.pid x.pid with ha | ha | ha
    · have e2 : addO a (x :: l) = ⟨a.pid, a.epoch, [a]⟩ :: x :: l := by rw [addO, if_pos (by omega), if_neg (by omega)]
      rw [e2, getO]
      by_cases h1 : q ≤ a.pid
      · rw [if_pos h1, if_neg hne, hd, if_pos (by omega), if_neg (by omega)]
      · rw [if_neg h1]
    · have e2 : addO a (x :: l) = ⟨x.pid, x.epoch, x.bats ++ [a]⟩ :: l := by rw [addO, if_pos (by omega), if_pos (by omega)]
      rw [e2, getO, hd]
      by_cases h2 : q ≤ x.pid
      · rw [if_pos h2, if_neg (show ¬ x.pid = q by omega), if_pos h2, if_neg (by omega)]
      · rw [if_neg h2, if_neg h2]
    · have e2 : addO a (x :: l) = x :: addO a l := by rw [addO, if_neg (by omega)]
      rw [e2, getO, hd, ih]
theorem getO_lt {q : Int} : ∀ {l : List OpenD}, (∀ x ∈ l, q < x.pid) → getO q l = none
  | [], _ => rfl
  | x :: l, h => by
    have := h x (List.mem_cons_self ..)
    rw [getO, if_pos (by omega), if_neg (by omega)]
theorem getO_delO (q' q : Int) (hne : q' ≠ q) : ∀ l : List OpenD, l.Pairwise (fun a b => a.pid < b.pid) → getO q (delO q' l) = getO q l
  | [], _ => rfl
  | x :: l, hp => by
    rw [List.pairwise_cons] at hp
    have ih := getO_delO q' q hne l hp.2
    rw [delO]
    by_cases h1 : q' ≤ x.pid
    · rw [if_pos h1]
      by_cases h2 : x.pid = q'
      · rw [if_pos h2, getO]
        by_cases h3 : q ≤ x.pid
        · rw [if_pos h3, if_neg (by omega), getO_lt (fun y hy => by have := hp.1 y hy; omega)]
        · rw [if_neg h3]
      · rw [if_neg h2]
    · rw [if_neg h1, getO, getO, ih]
theorem clr_ins (pid : Int) (q : ProdD) (hne : q.pid ≠ pid) : ∀ l : List ProdD, clrP pid (insP q l) = insP q (clrP pid l)
  | [] => by simp [clrP, insP, hne]
  | x :: l => by
    have ih := clr_ins pid q hne l
    have hd : clrP pid (x :: l) = if x.pid = pid then ⟨x.pid, x.epoch, x.next, []⟩ :: l else x :: clrP pid l := rfl
    by_cases h1 : q.pid ≤ x.pid
    · by_cases h2 : x.pid = q.pid
      · have e : insP q (x :: l) = q :: l := by rw [insP, if_pos h1, if_pos h2]
        rw [e, clrP, if_neg hne, hd, if_neg (by omega), insP, if_pos h1, if_pos h2]
      · have e : insP q (x :: l) = q :: x :: l := by rw [insP, if_pos h1, if_neg h2]
        rw [e, clrP, if_neg hne, hd]
        by_cases h3 : x.pid = pid
        · rw [if_pos h3, insP, if_pos (show q.pid ≤ x.pid from h1), if_neg (show ¬ x.pid = q.pid from h2)]
        · rw [if_neg h3, insP, if_pos h1, if_neg h2]
    · have e : insP q (x :: l) = x :: insP q l := by rw [insP, if_neg h1]
      rw [e, clrP, hd]
      by_cases h3 : x.pid = pid
      · rw [if_pos h3, if_pos h3, insP, if_neg (show ¬ q.pid ≤ x.pid from h1)]
      · rw [if_neg h3, if_neg h3, insP, if_neg h1, ih]
theorem find_clr (pid q : Int) (hne : q ≠ pid) : ∀ l : List ProdD, findF (clrP pid l) q = findF l q
  | [] => rfl
  | x :: l => by
    rw [clrP]
    split
    · rename_i h
      rw [findF_cons, findF_cons, if_neg (show ¬ x.pid = q by omega), if_neg (by omega)]
    · rw [findF_cons, findF_cons, find_clr pid q hne l]
theorem check_clr {l : List ProdD} {b : BatD} {pid : Int} (hm : mayL l = true) (hne : b.pid ≠ pid) : checkF (clearF l pid) b = checkF l b ∧ ∀ base, newS (clearF l pid) b base = newS l b base := by
  have hf : findF (clearF l pid) b.pid = findF l b.pid := by rw [clearF_clrP]; exact find_clr pid b.pid hne l
  have hm2 := may_clear pid hm
  refine ⟨?_, fun base => by unfold newS oldS; rw [hf]⟩
  unfold checkF judgeF effP
  rw [hf, hm, hm2]
def newP (l : List ProdD) (b : BatD) (base : Int) : ProdD := ⟨b.pid, b.epoch, behF b, newS l b base⟩
structure OkT (l : List ProdD) (b : BatD) : Prop where
  err : (checkF l b).2.2 = 0
  dup : (checkF l b).2.1 = false
theorem OkT.val {l : List ProdD} {b : BatD} (h : OkT l b) (base : Int) (hb : -1 ≤ base ∧ base ≤ 1048576) : (takeF l b base).1 = setF l (newP l b base) :=
  (takeF_ok ((takeF_iff l b base hb).2 ⟨h.err, h.dup⟩)).2.2.2
theorem OkT.known {l : List ProdD} {b : BatD} (h : OkT l b) (base : Int) (hb : -1 ≤ base ∧ base ≤ 1048576) : knownB (newP l b base) = true :=
  known_new (by simp only [Bool.or_eq_false_iff, decide_eq_false_iff_not]; omega) h.err h.dup
theorem OkT.not {l : List ProdD} {b : BatD} : ((checkF l b).2.2 ≠ 0 ∨ (checkF l b).2.1 = true) ↔ ¬ OkT l b := by
  constructor
  · rintro (h | h) h2
    · exact h h2.err
    · rw [h2.dup] at h; cases h
  · intro h
    by_cases h1 : (checkF l b).2.2 = 0
    · right
      cases h2 : (checkF l b).2.1 with
      | true => rfl
      | false => exact absurd ⟨h1, h2⟩ h
    · exact .inl h1
theorem openB_getO {l : List OpenD} {pid : Int} : (openB l pid = true ∧ ∃ o, l[openI l pid]? = some o ∧ getO pid l = some o) ∨ (openB l pid = false ∧ getO pid l = none) := by
  have h := getO_eq pid l
  cases ho : openB l pid with
  | false => right; rw [ho] at h; exact ⟨rfl, h⟩
  | true =>
    obtain ⟨o, hi, _⟩ := openB_get ho
    left; rw [ho, hi] at h; exact ⟨rfl, o, hi, h⟩
theorem data_txn_iff {p q : PartD} {b : BatD} (ht : b.txn = true) : dataP p b = some q ↔ OkT p.prods b ∧ (∀ o, getO b.pid p.opens = some o → o.epoch = b.epoch ∧ o.bats.length < 8) ∧ q = { p with prods := setF p.prods (newP p.prods b (-1)), opens := addO b p.opens } := by
  unfold dataP
  by_cases hc : OkT p.prods b
  · rw [if_neg (by rw [OkT.not]; exact fun h => h hc), hc.val (-1) (by omega)]
    rcases openB_getO (l := p.opens) (pid := b.pid) with ⟨h1, o, h2, h3⟩ | ⟨h1, h3⟩
    · simp only [h1, h2, h3, addO_some b o p.opens h3]
      by_cases hx : b.txn = false ∨ o.epoch ≠ b.epoch ∨ 8 ≤ o.bats.length
      · rw [if_pos hx]
        constructor
        · intro h; cases h
        · rintro ⟨_, h, _⟩
          obtain ⟨a1, a2⟩ := h o rfl
          rcases hx with hx | hx | hx
          · rw [ht] at hx; cases hx
          · exact absurd a1 hx
          · omega
      · rw [if_neg hx]
        constructor
        · intro h; cases h
          refine ⟨hc, fun o' ho => ?_, rfl⟩
          cases ho
          refine ⟨Decidable.not_not.1 (fun h => hx (.inr (.inl h))), ?_⟩
          rcases Nat.lt_or_ge o.bats.length 8 with h | h
          · exact h
          · exact absurd (.inr (.inr h)) hx
        · rintro ⟨_, _, rfl⟩; rfl
    · simp only [h1, h3, addO_none b p.opens h3]
      rw [if_neg (by rw [ht]; simp)]
      constructor
      · intro h; cases h
        exact ⟨hc, fun o ho => (by cases ho), rfl⟩
      · rintro ⟨_, _, rfl⟩; rfl
  · rw [if_pos (OkT.not.2 hc)]
    constructor
    · intro h; cases h
    · rintro ⟨h, _⟩; exact absurd h hc
theorem data_plain_iff {p q : PartD} {b : BatD} (ht : b.txn = false) (hf : 0 ≤ p.fin ∧ p.fin ≤ 1048576) : dataP p b = some q ↔ OkT p.prods b ∧ getO b.pid p.opens = none ∧ p.fin + (b.recs.length : Int) ≤ 1048576 ∧ q = { p with prods := setF p.prods (newP p.prods b p.fin), rows := p.rows ++ rowsF b p.fin, fin := p.fin + (b.recs.length : Int) } := by
  unfold dataP
  by_cases hc : OkT p.prods b
  · rw [if_neg (by rw [OkT.not]; exact fun h => h hc), hc.val p.fin (by omega)]
    rcases openB_getO (l := p.opens) (pid := b.pid) with ⟨h1, o, h2, h3⟩ | ⟨h1, h3⟩
    · simp only [h1, h2, h3]
      rw [if_pos (.inl ht)]
      constructor
      · intro h; cases h
      · rintro ⟨_, h, _⟩; cases h
    · simp only [h1, h3]
      rw [if_pos ht]
      by_cases hx : 1048576 < p.fin + (b.recs.length : Int)
      · rw [if_pos hx]
        constructor
        · intro h; cases h
        · rintro ⟨_, _, h, _⟩; omega
      · rw [if_neg hx]
        constructor
        · intro h; cases h
          exact ⟨hc, by trivial, by omega, rfl⟩
        · rintro ⟨_, _, _, rfl⟩; rfl
  · rw [if_pos (OkT.not.2 hc)]
    constructor
    · intro h; cases h
    · rintro ⟨h, _⟩; exact absurd h hc
theorem mark_iff {p q : PartD} {b : BatD} {yes : Bool} : markP p b yes = some q ↔ ∃ o, getO b.pid p.opens = some o ∧ o.epoch = b.epoch ∧ p.fin + (sumR (if yes then o.bats else []) : Nat) + 1 ≤ 1048576 ∧
    q = { putsP p (if yes then o.bats else []) with fin := (putsP p (if yes then o.bats else [])).fin + 1, opens := delO b.pid p.opens, prods := clearF p.prods b.pid } := by
  unfold markP
  rcases openB_getO (l := p.opens) (pid := b.pid) with ⟨h1, o, h2, h3⟩ | ⟨h1, h3⟩
  · simp only [h1, h2, h3, delO_eq b.pid o p.opens h3]
    by_cases he : o.epoch = b.epoch
    · rw [if_neg (fun h : o.epoch ≠ b.epoch => h he)]
      by_cases hx : 1048576 < p.fin + (sumR (if yes then o.bats else []) : Nat) + 1
      · rw [if_pos hx]
        constructor
        · intro h; cases h
        · rintro ⟨o', ho, _, h, _⟩; cases ho; omega
      · rw [if_neg hx]
        constructor
        · intro h; cases h
          exact ⟨o, rfl, he, by omega, rfl⟩
        · rintro ⟨o', ho, _, _, rfl⟩; cases ho; rfl
    · rw [if_pos (show o.epoch ≠ b.epoch from he)]
      constructor
      · intro h; cases h
      · rintro ⟨o', ho, h, _⟩; cases ho; exact absurd h he
  · simp only [h1, h3]
    constructor
    · intro h; cases h
    · rintro ⟨o, ho, _⟩; cases ho
theorem step_kind {p q : PartD} {e : EntD} (h : stepP p e = some q) : okKind e = true := by
  unfold stepP at h
  cases ho : okKind e with
  | true => rfl
  | false => rw [ho, if_pos rfl] at h; cases h
theorem step_data {p : PartD} {e : EntD} (ho : okKind e = true) (he : e.kind = 0) : stepP p e = dataP p e.b := by
  unfold stepP; simp [ho, he]
theorem step_mark {p : PartD} {e : EntD} (ho : okKind e = true) (he : e.kind = 1) : stepP p e = markP p e.b e.yes := by
  unfold stepP; simp [ho, he]
theorem puts_with2 (os : List OpenD) (ps : List ProdD) : ∀ (l : List BatD) (p : PartD), putsP { p with prods := ps, opens := os } l = { putsP p l with prods := ps, opens := os }
  | [], p => rfl
  | b :: l, p => puts_with2 os ps l { p with rows := p.rows ++ rowsF b p.fin, fin := p.fin + (b.recs.length : Int) }
theorem okT_set {l : List ProdD} {b : BatD} {q : ProdD} (hm : mayL l = true) (hk : knownB q = true) (hne : q.pid ≠ b.pid) : OkT (setF l q) b ↔ OkT l b := by
  have h := (check_apart (b := b) hm hk hne).1
  constructor
  · rintro ⟨a1, a2⟩; rw [h] at a1 a2; exact ⟨a1, a2⟩
  · rintro ⟨a1, a2⟩; exact ⟨by rw [h]; exact a1, by rw [h]; exact a2⟩
theorem newP_set {l : List ProdD} {b : BatD} {q : ProdD} (hm : mayL l = true) (hk : knownB q = true) (hne : q.pid ≠ b.pid) (base : Int) : newP (setF l q) b base = newP l b base := by
  unfold newP; rw [(check_apart (b := b) hm hk hne).2]
theorem okT_clr {l : List ProdD} {b : BatD} {pid : Int} (hm : mayL l = true) (hne : b.pid ≠ pid) : OkT (clearF l pid) b ↔ OkT l b := by
  have h := (check_clr (b := b) (pid := pid) hm hne).1
  constructor
  · rintro ⟨a1, a2⟩; rw [h] at a1 a2; exact ⟨a1, a2⟩
  · rintro ⟨a1, a2⟩; exact ⟨by rw [h]; exact a1, by rw [h]; exact a2⟩
theorem newP_clr {l : List ProdD} {b : BatD} {pid : Int} (hm : mayL l = true) (hne : b.pid ≠ pid) (base : Int) : newP (clearF l pid) b base = newP l b base := by
  unfold newP; rw [(check_clr (b := b) (pid := pid) hm hne).2]
theorem setF_comm (l : List ProdD) (p q : ProdD) (hne : p.pid ≠ q.pid) : setF (setF l p) q = setF (setF l q) p := by
  rw [setF_insP, setF_insP, setF_insP, setF_insP, ins_comm q p (fun e => hne e.symm)]
theorem setF_clr (l : List ProdD) (q : ProdD) (pid : Int) (hne : q.pid ≠ pid) : clearF (setF l q) pid = setF (clearF l pid) q := by
  rw [clearF_clrP, clearF_clrP, setF_insP, setF_insP, clr_ins pid q hne]
theorem turn_step {k : Nat} {p p1 p2 : PartD} {a b : EntD} (h : FOkM k p) (ha0 : a.kind = 0) (hat : a.b.txn = true) (hb : b.kind = 0 ∨ b.kind = 1) (hne : a.b.pid ≠ b.b.pid) (h1 : stepP p a = some p1) (h2 : stepP p1 b = some p2) :
    ∃ q1, stepP p b = some q1 ∧ stepP q1 a = some p2 := by
  have hoa := step_kind h1
  have hob := step_kind h2
  have hfin := h.fin
  have hm := h.may
  have hrise := h.ok.rise
  rw [step_data hoa ha0] at h1
  obtain ⟨ka, oa, e1⟩ := (data_txn_iff hat).1 h1
  have kna := ka.known (-1) (by omega)
  have hna : (newP p.prods a.b (-1)).pid ≠ b.b.pid := hne
  rcases hb with hb | hb
  · rw [step_data hob hb] at h2
    cases hbt : b.b.txn with
    | true =>
      obtain ⟨kb, ob, e2⟩ := (data_txn_iff hbt).1 h2
      rw [e1] at kb ob e2
      have kb' : OkT p.prods b.b := (okT_set hm kna hna).1 kb
      have knb := kb'.known (-1) (by omega)
      have hnb : (newP p.prods b.b (-1)).pid ≠ a.b.pid := fun e => hne e.symm
      refine ⟨_, by rw [step_data hob hb]; exact (data_txn_iff hbt).2 ⟨kb', fun o ho => ob o (by rw [getO_addO a.b b.b.pid hne]; exact ho), rfl⟩, ?_⟩
      rw [step_data hoa ha0]
      refine (data_txn_iff hat).2 ⟨(okT_set hm knb hnb).2 ka, fun o ho => oa o (by rw [getO_addO b.b a.b.pid (fun e => hne e.symm)] at ho; exact ho), ?_⟩
      rw [e2]
      simp only [newP_set hm kna hna, newP_set hm knb hnb, setF_comm p.prods (newP p.prods a.b (-1)) (newP p.prods b.b (-1)) hne, addO_comm a.b b.b hne]
    | false =>
      have hf1 : p1.fin = p.fin := by rw [e1]
      obtain ⟨kb, ob, fb, e2⟩ := (data_plain_iff hbt (by omega)).1 h2
      rw [e1] at kb ob fb e2
      have kb' : OkT p.prods b.b := (okT_set hm kna hna).1 kb
      have knb := kb'.known p.fin (by omega)
      have hnb : (newP p.prods b.b p.fin).pid ≠ a.b.pid := fun e => hne e.symm
      refine ⟨_, by rw [step_data hob hb]; exact (data_plain_iff hbt hfin).2 ⟨kb', by rw [← getO_addO a.b b.b.pid hne]; exact ob, fb, rfl⟩, ?_⟩
      rw [step_data hoa ha0]
      refine (data_txn_iff hat).2 ⟨(okT_set hm knb hnb).2 ka, oa, ?_⟩
      rw [e2]
      simp only [newP_set hm kna hna, newP_set hm knb hnb, setF_comm p.prods (newP p.prods a.b (-1)) (newP p.prods b.b p.fin) hne]
  · rw [step_mark hob hb] at h2
    obtain ⟨o, ob, ep, fb, e2⟩ := mark_iff.1 h2
    rw [e1] at ob fb e2
    rw [getO_addO a.b b.b.pid hne] at ob
    refine ⟨_, by rw [step_mark hob hb]; exact mark_iff.2 ⟨o, ob, ep, fb, rfl⟩, ?_⟩
    rw [step_data hoa ha0]
    refine (data_txn_iff hat).2 ⟨(okT_clr hm hne).2 ka, fun o' ho => oa o' (by rw [← getO_delO b.b.pid a.b.pid (fun e => hne e.symm) p.opens hrise]; exact ho), ?_⟩
    rw [e2]
    simp only [newP_clr hm hne, puts_with2, setF_clr p.prods (newP p.prods a.b (-1)) b.b.pid hne, delO_addO a.b b.b.pid hne p.opens hrise]
theorem foldP_one (p q : PartD) (e : EntD) (l : List EntD) (h : stepP p e = some q) : foldP p (e :: l) = foldP q l := by
  rw [foldP, h]
theorem turn_fold {pre post : List EntD} {a b : EntD} {p : PartD} (ha0 : a.kind = 0) (hat : a.b.txn = true) (hb : b.kind = 0 ∨ b.kind = 1) (hne : a.b.pid ≠ b.b.pid) (h : foldP pZ (pre ++ a :: b :: post) = some p) : foldP pZ (pre ++ b :: a :: post) = some p := by
  rw [foldP_app] at h ⊢
  cases hq : foldP pZ pre with
  | none => rw [hq] at h; cases h
  | some q =>
    rw [hq] at h
    have hM := fold_okM pre 0 pZ q fokM0 hq
    simp only at h ⊢
    unfold foldP at h
    split at h
    · rename_i p1 h1
      unfold foldP at h
      split at h
      · rename_i p2 h2
        obtain ⟨q1, g1, g2⟩ := turn_step hM ha0 hat hb hne h1 h2
        rw [foldP_one _ _ _ _ g1, foldP_one _ _ _ _ g2]
        exact h
      · cases h
    · cases h
end Go.Proofs.YtafipkbffboebaaGreatDoor
namespace Go.Proofs.YtafipkbffboebaaGreatDoor
open Go Go.RowKit
set_option maxHeartbeats 4000000
set_option maxRecDepth 100000
set_option linter.unusedVariables false
set_option linter.unusedSimpArgs false
end Go.Proofs.YtafipkbffboebaaGreatDoor
namespace Go.Proofs.YtafipkbffboebaaGreatDoor
open Go Go.RowKit
set_option maxHeartbeats 4000000
set_option maxRecDepth 100000
set_option linter.unusedVariables false
set_option linter.unusedSimpArgs false
end Go.Proofs.YtafipkbffboebaaGreatDoor
namespace Go.Proofs.YtafipkbffboebaaGreatDoor
open Go Go.RowKit
set_option maxHeartbeats 4000000
set_option maxRecDepth 100000
set_option linter.unusedVariables false
set_option linter.unusedSimpArgs false
end Go.Proofs.YtafipkbffboebaaGreatDoor
