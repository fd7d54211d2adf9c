/- The abstract machine (PlB, PlC, PlD, PlE). -/
import Derived.Test.YtafipkbffboebaaDoorRgM
namespace Go.Proofs.YtafipkbffboebaaDoor
open Go Go.RowKit
set_option maxHeartbeats 4000000
set_option maxRecDepth 100000
set_option linter.unusedVariables false
set_option linter.unusedSimpArgs false
/-- Behind its producer's open transaction, or a new one. -/
def addO (b : BatD) : List OpenD → List OpenD
  | [] => [⟨b.pid, b.epoch, [b]⟩]
  | x :: l => if b.pid ≤ x.pid then (if x.pid = b.pid then ⟨x.pid, x.epoch, x.bats ++ [b]⟩ :: l else ⟨b.pid, b.epoch, [b]⟩ :: x :: l) else x :: addO b l
def delO (pid : Int) : List OpenD → List OpenD
  | [] => []
  | x :: l => if pid ≤ x.pid then (if x.pid = pid then l else x :: l) else x :: delO pid l
def getO (pid : Int) : List OpenD → Option OpenD
  | [] => none
  | x :: l => if pid ≤ x.pid then (if x.pid = pid then some x else none) else getO pid l
theorem openI_cons (x : OpenD) (l : List OpenD) (pid : Int) : openI (x :: l) pid = if pid ≤ x.pid then 0 else openI l pid + 1 := by
  unfold openI
  rw [List.findIdx_cons]
  by_cases h : pid ≤ x.pid <;> simp [h]
theorem openB_cons (x : OpenD) (l : List OpenD) (pid : Int) : openB (x :: l) pid = if pid ≤ x.pid then x.pid == pid else openB l pid := by
  unfold openB
  rw [openI_cons]
  by_cases h : pid ≤ x.pid <;> simp [h]
theorem getO_eq (pid : Int) : ∀ l : List OpenD, getO pid l = match openB l pid, l[openI l pid]? with
    | true, some o => some o
    | _, _ => none
  | [] => by simp [getO, openB]
  | x :: l => by
    have ih := getO_eq pid l
    rw [openI_cons, openB_cons, getO]
    by_cases h : pid ≤ x.pid
    · by_cases h2 : x.pid = pid
      · simp [h2]
      · have h3 : (x.pid == pid) = false := by simpa using h2
        simp [h, h2, h3]
    · simp only [h, if_false, ih, List.getElem?_cons_succ]
theorem addO_none (b : BatD) : ∀ l : List OpenD, getO b.pid l = none → l.take (openI l b.pid) ++ (⟨b.pid, b.epoch, [b]⟩ : OpenD) :: l.drop (openI l b.pid) = addO b l
  | [], _ => rfl
  | x :: l, h => by
    have ih := addO_none b l
    rw [getO] at h
    rw [openI_cons, addO]
    by_cases h1 : b.pid ≤ x.pid
    · rw [if_pos h1] at h
      by_cases h2 : x.pid = b.pid
      · rw [if_pos h2] at h; cases h
      · simp [h1, h2]
    · rw [if_neg h1] at h
      simp [h1, ih h]
theorem addO_some (b : BatD) (o : OpenD) : ∀ l : List OpenD, getO b.pid l = some o → l.set (openI l b.pid) ⟨o.pid, o.epoch, o.bats ++ [b]⟩ = addO b l
  | [], h => by cases h
  | x :: l, h => by
    have ih := addO_some b o l
    rw [getO] at h
    rw [openI_cons, addO]
    by_cases h1 : b.pid ≤ x.pid
    · rw [if_pos h1] at h
      by_cases h2 : x.pid = b.pid
      · rw [if_pos h2] at h; cases h; simp [h2]
      · rw [if_neg h2] at h; cases h
    · rw [if_neg h1] at h
      simp [h1, ih h]
theorem delO_eq (pid : Int) (o : OpenD) : ∀ l : List OpenD, getO pid l = some o → l.take (openI l pid) ++ l.drop (openI l pid + 1) = delO pid l
  | [], h => by cases h
  | x :: l, h => by
    have ih := delO_eq pid o l
    rw [getO] at h
    rw [openI_cons, delO]
    by_cases h1 : pid ≤ x.pid
    · rw [if_pos h1] at h
      by_cases h2 : x.pid = pid
      · simp [h2]
      · rw [if_neg h2] at h; cases h
    · rw [if_neg h1] at h
      simp [h1, ih h]
theorem getO_addO (a : BatD) (q : Int) (hne : a.pid ≠ q) : ∀ l : List OpenD, getO q (addO a l) = getO q l
  | [] => by
    simp only [addO, getO]
    by_cases h1 : q ≤ a.pid
    · rw [if_pos h1, if_neg hne]
    · rw [if_neg h1]
  | x :: l => by
    have ih := getO_addO a q hne l
    have hd : getO q (x :: l) = if q ≤ x.pid then (if x.pid = q then some x else none) else getO q l := rfl
    rcases Int.lt_trichotomy a.pid x.pid with ha | ha | ha
    · have e2 : addO a (x :: l) = ⟨a.pid, a.epoch, [a]⟩ :: x :: l := by rw [addO, if_pos (by omega), if_neg (by omega)]
      rw [e2, getO]
      by_cases h1 : q ≤ a.pid
      · rw [if_pos h1, if_neg hne, hd, if_pos (by omega), if_neg (by omega)]
      · rw [if_neg h1]
    · have e2 : addO a (x :: l) = ⟨x.pid, x.epoch, x.bats ++ [a]⟩ :: l := by rw [addO, if_pos (by omega), if_pos (by omega)]
      rw [e2, getO, hd]
      by_cases h2 : q ≤ x.pid
      · rw [if_pos h2, if_neg (show ¬ x.pid = q by omega), if_pos h2, if_neg (by omega)]
      · rw [if_neg h2, if_neg h2]
    · have e2 : addO a (x :: l) = x :: addO a l := by rw [addO, if_neg (by omega)]
      rw [e2, getO, hd, ih]
theorem getO_lt {q : Int} : ∀ {l : List OpenD}, (∀ x ∈ l, q < x.pid) → getO q l = none
  | [], _ => rfl
  | x :: l, h => by
    have := h x (List.mem_cons_self ..)
    rw [getO, if_pos (by omega), if_neg (by omega)]
theorem getO_delO (q' q : Int) (hne : q' ≠ q) : ∀ l : List OpenD, l.Pairwise (fun a b => a.pid < b.pid) → getO q (delO q' l) = getO q l
  | [], _ => rfl
  | x :: l, hp => by
    rw [List.pairwise_cons] at hp
    have ih := getO_delO q' q hne l hp.2
    rw [delO]
    by_cases h1 : q' ≤ x.pid
    · rw [if_pos h1]
      by_cases h2 : x.pid = q'
      · rw [if_pos h2, getO]
        by_cases h3 : q ≤ x.pid
        · rw [if_pos h3, if_neg (by omega), getO_lt (fun y hy => by have := hp.1 y hy; omega)]
        · rw [if_neg h3]
      · rw [if_neg h2]
    · rw [if_neg h1, getO, getO, ih]
def newP (l : List ProdD) (b : BatD) (base : Int) : ProdD := ⟨b.pid, b.epoch, behF b, newS l b base⟩
structure OkT (l : List ProdD) (b : BatD) : Prop where
  err : (checkF l b).2.2 = 0
  dup : (checkF l b).2.1 = false
theorem OkT.val {l : List ProdD} {b : BatD} (h : OkT l b) (base : Int) (hb : -1 ≤ base ∧ base ≤ 1048576) : (takeF l b base).1 = setF l (newP l b base) :=
  (takeF_ok ((takeF_iff l b base hb).2 ⟨h.err, h.dup⟩)).2.2.2
theorem OkT.known {l : List ProdD} {b : BatD} (h : OkT l b) (base : Int) (hb : -1 ≤ base ∧ base ≤ 1048576) : knownB (newP l b base) = true :=
  known_new (by simp only [Bool.or_eq_false_iff, decide_eq_false_iff_not]; omega) h.err h.dup
theorem OkT.not {l : List ProdD} {b : BatD} : ((checkF l b).2.2 ≠ 0 ∨ (checkF l b).2.1 = true) ↔ ¬ OkT l b := by
  constructor
  · rintro (h | h) h2
    · exact h h2.err
    · rw [h2.dup] at h; cases h
  · intro h
    by_cases h1 : (checkF l b).2.2 = 0
    · right
      cases h2 : (checkF l b).2.1 with
      | true => rfl
      | false => exact absurd ⟨h1, h2⟩ h
    · exact .inl h1
theorem openB_getO {l : List OpenD} {pid : Int} : (openB l pid = true ∧ ∃ o, l[openI l pid]? = some o ∧ getO pid l = some o) ∨ (openB l pid = false ∧ getO pid l = none) := by
  have h := getO_eq pid l
  cases ho : openB l pid with
  | false => right; rw [ho] at h; exact ⟨rfl, h⟩
  | true =>
    obtain ⟨o, hi, _⟩ := openB_get ho
    left; rw [ho, hi] at h; exact ⟨rfl, o, hi, h⟩
theorem data_txn_iff {p q : PartD} {b : BatD} (ht : b.txn = true) : dataP p b = some q ↔ OkT p.prods b ∧ (∀ o, getO b.pid p.opens = some o → o.epoch = b.epoch ∧ o.bats.length < 8) ∧ q = { p with prods := setF p.prods (newP p.prods b (-1)), opens := addO b p.opens } := by
  unfold dataP
  by_cases hc : OkT p.prods b
  · rw [if_neg (by rw [OkT.not]; exact fun h => h hc), hc.val (-1) (by omega)]
    rcases openB_getO (l := p.opens) (pid := b.pid) with ⟨h1, o, h2, h3⟩ | ⟨h1, h3⟩
    · simp only [h1, h2, h3, addO_some b o p.opens h3]
      by_cases hx : b.txn = false ∨ o.epoch ≠ b.epoch ∨ 8 ≤ o.bats.length
      · rw [if_pos hx]
        constructor
        · intro h; cases h
        · rintro ⟨_, h, _⟩
          obtain ⟨a1, a2⟩ := h o rfl
          rcases hx with hx | hx | hx
          · rw [ht] at hx; cases hx
          · exact absurd a1 hx
          · omega
      · rw [if_neg hx]
        constructor
        · intro h; cases h
          refine ⟨hc, fun o' ho => ?_, rfl⟩
          cases ho
          refine ⟨Decidable.not_not.1 (fun h => hx (.inr (.inl h))), ?_⟩
          rcases Nat.lt_or_ge o.bats.length 8 with h | h
          · exact h
          · exact absurd (.inr (.inr h)) hx
        · rintro ⟨_, _, rfl⟩; rfl
    · simp only [h1, h3, addO_none b p.opens h3]
      rw [if_neg (by rw [ht]; simp)]
      constructor
      · intro h; cases h
        exact ⟨hc, fun o ho => (by cases ho), rfl⟩
      · rintro ⟨_, _, rfl⟩; rfl
  · rw [if_pos (OkT.not.2 hc)]
    constructor
    · intro h; cases h
    · rintro ⟨h, _⟩; exact absurd h hc
theorem data_plain_iff {p q : PartD} {b : BatD} (ht : b.txn = false) (hf : 0 ≤ p.fin ∧ p.fin ≤ 1048576) : dataP p b = some q ↔ OkT p.prods b ∧ getO b.pid p.opens = none ∧ p.fin + (b.recs.length : Int) ≤ 1048576 ∧ q = { p with prods := setF p.prods (newP p.prods b p.fin), rows := p.rows ++ rowsF b p.fin, fin := p.fin + (b.recs.length : Int) } := by
  unfold dataP
  by_cases hc : OkT p.prods b
  · rw [if_neg (by rw [OkT.not]; exact fun h => h hc), hc.val p.fin (by omega)]
    rcases openB_getO (l := p.opens) (pid := b.pid) with ⟨h1, o, h2, h3⟩ | ⟨h1, h3⟩
    · simp only [h1, h2, h3]
      rw [if_pos (.inl ht)]
      constructor
      · intro h; cases h
      · rintro ⟨_, h, _⟩; cases h
    · simp only [h1, h3]
      rw [if_pos ht]
      by_cases hx : 1048576 < p.fin + (b.recs.length : Int)
      · rw [if_pos hx]
        constructor
        · intro h; cases h
        · rintro ⟨_, _, h, _⟩; omega
      · rw [if_neg hx]
        constructor
        · intro h; cases h
          exact ⟨hc, by trivial, by omega, rfl⟩
        · rintro ⟨_, _, _, rfl⟩; rfl
  · rw [if_pos (OkT.not.2 hc)]
    constructor
    · intro h; cases h
    · rintro ⟨h, _⟩; exact absurd h hc
theorem mark_iff {p q : PartD} {b : BatD} {yes : Bool} : markP p b yes = some q ↔ ∃ o, getO b.pid p.opens = some o ∧ o.epoch = b.epoch ∧ p.fin + (sumR (if yes then o.bats else []) : Nat) + 1 ≤ 1048576 ∧
    q = { putsP p (if yes then o.bats else []) with fin := (putsP p (if yes then o.bats else [])).fin + 1, opens := delO b.pid p.opens, prods := clearF p.prods b.pid } := by
  unfold markP
  rcases openB_getO (l := p.opens) (pid := b.pid) with ⟨h1, o, h2, h3⟩ | ⟨h1, h3⟩
  · simp only [h1, h2, h3, delO_eq b.pid o p.opens h3]
    by_cases he : o.epoch = b.epoch
    · rw [if_neg (fun h : o.epoch ≠ b.epoch => h he)]
      by_cases hx : 1048576 < p.fin + (sumR (if yes then o.bats else []) : Nat) + 1
      · rw [if_pos hx]
        constructor
        · intro h; cases h
        · rintro ⟨o', ho, _, h, _⟩; cases ho; omega
      · rw [if_neg hx]
        constructor
        · intro h; cases h
          exact ⟨o, rfl, he, by omega, rfl⟩
        · rintro ⟨o', ho, _, _, rfl⟩; cases ho; rfl
    · rw [if_pos (show o.epoch ≠ b.epoch from he)]
      constructor
      · intro h; cases h
      · rintro ⟨o', ho, h, _⟩; cases ho; exact absurd h he
  · simp only [h1, h3]
    constructor
    · intro h; cases h
    · rintro ⟨o, ho, _⟩; cases ho
theorem step_kind {p q : PartD} {e : EntD} (h : stepP p e = some q) : okKind e = true := by
  unfold stepP at h
  cases ho : okKind e with
  | true => rfl
  | false => rw [ho, if_pos rfl] at h; cases h
theorem step_data {p : PartD} {e : EntD} (ho : okKind e = true) (he : e.kind = 0) : stepP p e = dataP p e.b := by
  unfold stepP; simp [ho, he]
theorem step_mark {p : PartD} {e : EntD} (ho : okKind e = true) (he : e.kind = 1) : stepP p e = markP p e.b e.yes := by
  unfold stepP; simp [ho, he]
end Go.Proofs.YtafipkbffboebaaDoor
namespace Go.Proofs.YtafipkbffboebaaDoor
open Go Go.RowKit
set_option maxHeartbeats 4000000
set_option maxRecDepth 100000
set_option linter.unusedVariables false
set_option linter.unusedSimpArgs false
def isMk (pid : Int) (e : EntD) : Bool := decide (e.kind = 1) && decide (e.b.pid = pid)
def isTx (pid : Int) (e : EntD) : Bool := decide (e.kind = 0) && e.b.txn && decide (e.b.pid = pid)
def pendS (pid : Int) (acc : List BatD) (e : EntD) : List BatD := if isMk pid e then [] else if isTx pid e then acc ++ [e.b] else acc
def pendF (l : List EntD) (pid : Int) : List BatD := l.foldl (pendS pid) []
def selF (l : List EntD) (pid : Int) : List BatD := (l.filter (isTx pid)).map (·.b)
theorem pend_sel (pid : Int) : ∀ (l : List EntD) (acc : List BatD), (∀ e ∈ l, isMk pid e = false) → l.foldl (pendS pid) acc = acc ++ selF l pid
  | [], acc, _ => by simp [selF]
  | e :: l, acc, h => by
    have h1 := h e (List.mem_cons_self ..)
    rw [List.foldl_cons, pend_sel pid l _ (fun x hx => h x (List.mem_cons_of_mem _ hx))]
    unfold pendS selF
    rw [h1]
    cases h2 : isTx pid e <;> simp [h2]
/-- From behind the last mark on. -/
theorem pend_from (pid : Int) (l : List EntD) (f : Nat) (h0 : f = 0 ∨ ∃ j e, f = j + 1 ∧ l[j]? = some e ∧ isMk pid e = true) (hn : ∀ j e, f ≤ j → l[j]? = some e → isMk pid e = false) : pendF l pid = selF (l.drop f) pid := by
  have hd : ∀ e ∈ l.drop f, isMk pid e = false := fun e he => by
    obtain ⟨i, hi⟩ := List.mem_iff_getElem?.1 he
    rw [List.getElem?_drop] at hi
    exact hn (f + i) e (by omega) hi
  have hs : pendF l pid = (l.drop f).foldl (pendS pid) (pendF (l.take f) pid) := by
    unfold pendF
    rw [← List.foldl_append, List.take_append_drop]
  have hz : pendF (l.take f) pid = [] := by
    rcases h0 with rfl | ⟨j, e, rfl, he, hm⟩
    · rfl
    · obtain ⟨hlt, hge⟩ := List.getElem?_eq_some_iff.1 he
      unfold pendF
      rw [List.take_succ_eq_append_getElem hlt, List.foldl_append, hge]
      simp [pendS, hm]
  rw [hs, hz, pend_sel pid _ _ hd, List.nil_append]
def batsO (pid : Int) (l : List OpenD) : List BatD := match getO pid l with
  | some o => o.bats
  | none => []
theorem getO_addO_self (b : BatD) : ∀ l : List OpenD, ∃ o, getO b.pid (addO b l) = some o ∧ o.bats = batsO b.pid l ++ [b]
  | [] => ⟨⟨b.pid, b.epoch, [b]⟩, by simp [addO, getO], rfl⟩
  | x :: l => by
    obtain ⟨o, h1, h2⟩ := getO_addO_self b l
    unfold batsO at h2 ⊢
    rw [addO, getO]
    by_cases h : b.pid ≤ x.pid
    · rw [if_pos h, if_pos h]
      by_cases h3 : x.pid = b.pid
      · rw [if_pos h3, if_pos h3, getO, if_pos (show b.pid ≤ x.pid from h), if_pos (show x.pid = b.pid from h3)]
        exact ⟨_, rfl, rfl⟩
      · rw [if_neg h3, if_neg h3, getO, if_pos (Int.le_refl _), if_pos rfl]
        exact ⟨_, rfl, rfl⟩
    · rw [if_neg h, if_neg h, getO, if_neg h]
      exact ⟨o, h1, h2⟩
theorem getO_delO_self (q : Int) : ∀ l : List OpenD, l.Pairwise (fun a b => a.pid < b.pid) → getO q (delO q l) = none
  | [], _ => rfl
  | x :: l, hp => by
    rw [List.pairwise_cons] at hp
    rw [delO]
    by_cases h : q ≤ x.pid
    · rw [if_pos h]
      by_cases h3 : x.pid = q
      · rw [if_pos h3]
        exact getO_lt (fun y hy => by have := hp.1 y hy; omega)
      · rw [if_neg h3, getO, if_pos h, if_neg h3]
    · rw [if_neg h, getO, if_neg h]
      exact getO_delO_self q l hp.2
theorem step_rest {p q : PartD} {e : EntD} (h : stepP p e = some q) (h0 : e.kind ≠ 0) (h1 : e.kind ≠ 1) : q.opens = p.opens := by
  have ho := step_kind h
  unfold stepP at h
  rw [ho, if_neg (by simp), if_neg h0, if_neg h1] at h
  split at h
  · split at h
    · cases h
    · cases h; rfl
  split at h
  · cases h
  split at h
  · cases h
  split at h
  · split at h
    · cases h
    · cases h; rfl
  · split at h
    · cases h
    · cases h; rfl
theorem pend_step {k : Nat} {p q : PartD} {e : EntD} (hk : FOkM k p) (h : stepP p e = some q) (pid : Int) : batsO pid q.opens = pendS pid (batsO pid p.opens) e := by
  have ho := step_kind h
  by_cases h0 : e.kind = 0
  · have hmk : isMk pid e = false := by simp [isMk, h0]
    rw [step_data ho h0] at h
    cases ht : e.b.txn with
    | false =>
      obtain ⟨_, _, _, rfl⟩ := (data_plain_iff ht hk.fin).1 h
      have htx : isTx pid e = false := by simp [isTx, ht]
      unfold pendS
      rw [hmk, htx]; rfl
    | true =>
      obtain ⟨_, _, rfl⟩ := (data_txn_iff ht).1 h
      unfold pendS
      rw [hmk]
      by_cases hp : e.b.pid = pid
      · have htx : isTx pid e = true := by simp [isTx, h0, ht, hp]
        rw [htx, if_neg (by simp), if_pos rfl]
        obtain ⟨o, h1, h2⟩ := getO_addO_self e.b p.opens
        rw [hp] at h1 h2
        rw [← h2]
        unfold batsO
        rw [h1]
      · have htx : isTx pid e = false := by simp [isTx, hp]
        rw [htx, if_neg (by simp), if_neg (by simp)]
        unfold batsO
        rw [getO_addO e.b pid hp]
  by_cases h1 : e.kind = 1
  · rw [step_mark ho h1] at h
    obtain ⟨o, g, _, _, rfl⟩ := mark_iff.1 h
    unfold pendS
    by_cases hp : e.b.pid = pid
    · have hmk : isMk pid e = true := by simp [isMk, h1, hp]
      rw [hmk, if_pos rfl]
      unfold batsO
      simp only
      rw [hp, getO_delO_self pid p.opens hk.ok.rise]
    · have hmk : isMk pid e = false := by simp [isMk, hp]
      have htx : isTx pid e = false := by simp [isTx, hp]
      rw [hmk, htx, if_neg Bool.false_ne_true, if_neg Bool.false_ne_true]
      unfold batsO
      simp only
      rw [getO_delO e.b.pid pid hp p.opens hk.ok.rise]
  · have hmk : isMk pid e = false := by simp [isMk, h1]
    have htx : isTx pid e = false := by simp [isTx, h0]
    rw [step_rest h h0 h1]
    unfold pendS
    rw [hmk, htx]; rfl
/-- What a prefix of a log is folded to. -/
theorem fold_take {l : List EntD} {p : PartD} (h : foldP pZ l = some p) : ∀ n, n ≤ l.length → ∃ q, foldP pZ (l.take n) = some q ∧ FOkM n q ∧ ∀ pid, batsO pid q.opens = pendF (l.take n) pid := fun n hn => by
  have hq : ∃ q, foldP pZ (l.take n) = some q := by
    conv at h => lhs; rw [← List.take_append_drop n l, foldP_app]
    cases hq : foldP pZ (l.take n) with
    | none => rw [hq] at h; cases h
    | some q => exact ⟨q, rfl⟩
  obtain ⟨q, hq⟩ := hq
  refine ⟨q, hq, ?_, ?_⟩
  · have := fold_okM _ 0 pZ q fokM0 hq
    rw [List.length_take, Nat.min_eq_left hn, Nat.zero_add] at this
    exact this
  · clear hn h
    suffices hgen : ∀ (m : List EntD) (k : Nat) (a b : PartD), FOkM k a → foldP a m = some b → ∀ pid, batsO pid b.opens = m.foldl (pendS pid) (batsO pid a.opens) by
      exact hgen _ 0 pZ q fokM0 hq
    intro m
    induction m with
    | nil => intro k a b ha hb pid; cases hb; rfl
    | cons e m ih =>
      intro k a b ha hb pid
      unfold foldP at hb
      split at hb
      · rename_i a' hst
        rw [ih (k + 1) a' b (step_okM ha hst) hb pid, pend_step ha hst pid, List.foldl_cons]
      · cases hb
/-- One entry more. -/
theorem fold_next {l : List EntD} {p : PartD} (h : foldP pZ l = some p) {n : Nat} (hn : n < l.length) {q : PartD} (hq : foldP pZ (l.take n) = some q) : ∃ q', stepP q l[n] = some q' ∧ foldP pZ (l.take (n + 1)) = some q' := by
  obtain ⟨q', hq', _⟩ := fold_take h (n + 1) (by omega)
  rw [List.take_succ_eq_append_getElem hn, foldP_app, hq] at hq'
  have h2 : foldP q [l[n]] = some q' := hq'
  rw [foldP] at h2
  split at h2
  · rename_i x hx
    cases h2
    exact ⟨_, hx, by rw [List.take_succ_eq_append_getElem hn, foldP_app, hq]; show foldP q [l[n]] = _; rw [foldP, hx]; rfl⟩
  · cases h2
end Go.Proofs.YtafipkbffboebaaDoor
namespace Go.Proofs.YtafipkbffboebaaDoor
open Go Go.RowKit
set_option maxHeartbeats 4000000
set_option maxRecDepth 100000
set_option linter.unusedVariables false
set_option linter.unusedSimpArgs false
end Go.Proofs.YtafipkbffboebaaDoor
namespace Go.Proofs.YtafipkbffboebaaDoor
open Go Go.RowKit
set_option maxHeartbeats 4000000
set_option maxRecDepth 100000
set_option linter.unusedVariables false
set_option linter.unusedSimpArgs false
end Go.Proofs.YtafipkbffboebaaDoor
