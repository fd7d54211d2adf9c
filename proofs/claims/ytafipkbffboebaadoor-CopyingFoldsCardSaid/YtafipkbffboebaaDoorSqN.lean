/- The abstract machine (SqE, SqF0, SqF2, SqL, SqI). -/
import Derived.Test.YtafipkbffboebaaDoorSqM
import Derived.Test.YtafipkbffboebaaDoorCpA
import Derived.Test.YtafipkbffboebaaDoorErSq
namespace Go.Proofs.YtafipkbffboebaaDoor
open Go Go.RowKit
set_option maxHeartbeats 4000000
set_option maxRecDepth 100000
set_option linter.unusedVariables false
set_option linter.unusedSimpArgs false
def sameS (b : BatD) (s : SeenD) : Bool := s.seq == b.seq && s.count == (b.recs.length : Int)
def effP (l : List ProdD) (b : BatD) : ProdD := if !(findF l b.pid).2 || decide ((findF l b.pid).1.epoch < b.epoch) then pzD else (findF l b.pid).1
def dupF (b : BatD) (p : ProdD) : Int × Bool × Int := match p.seen.find? (sameS b) with
  | some s => (s.base, true, 0)
  | none => if b.seq != p.next then (0, false, 101) else (-1, false, 0)
def judgeF (l : List ProdD) (b : BatD) : Int × Bool × Int := if (findF l b.pid).2 && decide (b.epoch < (findF l b.pid).1.epoch) then (0, false, 100) else dupF b (effP l b)
theorem findF_mem {l : List ProdD} {pid : Int} {p : ProdD} (h : findF l pid = (p, true)) : p ∈ l := by
  unfold findF at h
  cases hq : l.find? (fun p => p.pid == pid) with
  | none => rw [hq] at h; cases h
  | some q => rw [hq] at h; cases h; exact List.mem_of_find?_eq_some hq
theorem findF_none {l : List ProdD} {pid : Int} {p : ProdD} (h : findF l pid = (p, false)) : p = pzD := by
  unfold findF at h
  cases hq : l.find? (fun p => p.pid == pid) with
  | none => rw [hq] at h; cases h; rfl
  | some q => rw [hq] at h; cases h
def checkF (l : List ProdD) (b : BatD) : Int × Bool × Int := if !mayL l || !batB b then (0, false, 2) else judgeF l b
end Go.Proofs.YtafipkbffboebaaDoor
namespace Go.Proofs.YtafipkbffboebaaDoor
open Go Go.RowKit
set_option maxHeartbeats 4000000
set_option maxRecDepth 100000
set_option linter.unusedVariables false
set_option linter.unusedSimpArgs false
def oldS (l : List ProdD) (b : BatD) : List SeenD := if (findF l b.pid).1.epoch != b.epoch then [] else (findF l b.pid).1.seen
def newS (l : List ProdD) (b : BatD) (base : Int) : List SeenD := (oldS l b ++ [(⟨b.seq, (b.recs.length : Int), base⟩ : SeenD)]).drop ((oldS l b).length - 2)
def takeF (l : List ProdD) (b : BatD) (base : Int) : List ProdD × Int :=
  if decide (base < -1) || decide (1048576 < base) then ([], 2) else
  if (checkF l b).2.2 ≠ 0 then ([], (checkF l b).2.2) else if (checkF l b).2.1 then ([], 101) else
  (setF l ⟨b.pid, b.epoch, behF b, newS l b base⟩, 0)
theorem checkF_may {l : List ProdD} {b : BatD} (h : (checkF l b).2.2 = 0) : mayL l = true ∧ batB b = true := by
  unfold checkF at h
  cases q1 : mayL l <;> cases q2 : batB b <;> simp [q1, q2] at h ⊢
theorem may_known {l : List ProdD} (h : mayL l = true) : ∀ p ∈ l, knownB p = true := by
  intro p hp
  obtain ⟨k, hk, rfl⟩ := List.getElem_of_mem hp
  have := (mayL_all l).1 h k l[k] (List.getElem?_eq_getElem hk)
  simp only [Bool.or_eq_false_iff, Bool.not_eq_false'] at this
  exact this.2
theorem known_seen {p : ProdD} (h : knownB p = true) : p.seen.length ≤ 3 := by
  simp only [knownB, headBad, Bool.and_eq_true, Bool.not_eq_true', Bool.or_eq_false_iff, decide_eq_false_iff_not] at h
  omega
theorem find_seen {l : List ProdD} (h : mayL l = true) (pid : Int) : (findF l pid).1.seen.length ≤ 3 := by
  cases hq : findF l pid with
  | mk p kn => cases kn with
    | true => exact known_seen (may_known h p (findF_mem hq))
    | false => rw [findF_none hq]; simp
end Go.Proofs.YtafipkbffboebaaDoor
namespace Go.Proofs.YtafipkbffboebaaDoor
open Go Go.RowKit
set_option maxHeartbeats 4000000
set_option maxRecDepth 100000
set_option linter.unusedVariables false
set_option linter.unusedSimpArgs false
end Go.Proofs.YtafipkbffboebaaDoor
namespace Go.Proofs.YtafipkbffboebaaDoor
open Go Go.RowKit
set_option maxHeartbeats 4000000
set_option maxRecDepth 100000
set_option linter.unusedVariables false
set_option linter.unusedSimpArgs false
end Go.Proofs.YtafipkbffboebaaDoor
namespace Go.Proofs.YtafipkbffboebaaDoor
open Go Go.RowKit
set_option linter.unusedVariables false
set_option linter.unusedSimpArgs false
/-- Put in its place. -/
def insP (p : ProdD) : List ProdD → List ProdD
  | [] => [p]
  | x :: l => if p.pid ≤ x.pid then (if x.pid = p.pid then p :: l else p :: x :: l) else x :: insP p l
theorem setF_insP (p : ProdD) : ∀ l : List ProdD, setF l p = insP p l
  | [] => by simp [setF, placeI, thereB, insP]
  | x :: l => by
    have ih := setF_insP p l
    by_cases h : p.pid ≤ x.pid
    · have hp : placeI (x :: l) p.pid = 0 := by simp [placeI, List.findIdx_cons, h]
      have ht : thereB (x :: l) p.pid = (x.pid == p.pid) := by simp [thereB, hp]
      simp only [setF, hp, ht, insP, h, if_true]
      by_cases he : x.pid = p.pid
      · simp [he]
      · have : (x.pid == p.pid) = false := by simpa using he
        simp [this, he]
    · have hp : placeI (x :: l) p.pid = placeI l p.pid + 1 := by simp [placeI, List.findIdx_cons, h]
      have ht : thereB (x :: l) p.pid = thereB l p.pid := by simp [thereB, hp]
      simp only [insP, h, if_false, ← ih]
      simp only [setF, hp, ht]
      cases thereB l p.pid <;> simp
theorem ins_comm (p q : ProdD) (hne : p.pid ≠ q.pid) : ∀ l : List ProdD, insP p (insP q l) = insP q (insP p l)
  | [] => by
    simp only [insP]
    by_cases h : p.pid ≤ q.pid
    · have h2 : ¬ q.pid ≤ p.pid := by omega
      have h3 : ¬ q.pid = p.pid := fun e => hne e.symm
      simp only [h, if_true, h2, if_false, h3, insP]
    · have h2 : q.pid ≤ p.pid := by omega
      simp only [h, if_false, h2, if_true, hne, insP]
  | x :: l => by
    have ih := ins_comm p q hne l
    have hne2 : ¬ q.pid = p.pid := fun e => hne e.symm
    by_cases h1 : p.pid ≤ x.pid <;> by_cases h2 : q.pid ≤ x.pid
    · by_cases e1 : x.pid = p.pid <;> by_cases e2 : x.pid = q.pid
      · omega
      · have a1 : ¬ p.pid ≤ q.pid := by omega
        have a2 : q.pid ≤ p.pid := by omega
        simp only [insP, h1, h2, e1, e2, a1, a2, if_true, if_false, hne, hne2, Int.le_refl]
      · have a1 : ¬ q.pid ≤ p.pid := by omega
        have a2 : p.pid ≤ q.pid := by omega
        simp only [insP, h1, h2, e1, e2, a1, a2, if_true, if_false, hne, hne2, Int.le_refl]
      · by_cases a1 : p.pid ≤ q.pid
        · have a2 : ¬ q.pid ≤ p.pid := by omega
          simp [insP, h1, h2, e1, e2, a1, a2, hne, hne2]
        · have a2 : q.pid ≤ p.pid := by omega
          simp [insP, h1, h2, e1, e2, a1, a2, hne, hne2]
    · have a1 : p.pid ≤ q.pid := by omega
      have a2 : ¬ q.pid ≤ p.pid := by omega
      by_cases e1 : x.pid = p.pid
      · simp [insP, h1, h2, e1, a1, a2, hne, hne2]
      · simp [insP, h1, h2, e1, a1, a2, hne, hne2]
    · have a1 : q.pid ≤ p.pid := by omega
      have a2 : ¬ p.pid ≤ q.pid := by omega
      by_cases e1 : x.pid = q.pid
      · simp [insP, h1, h2, e1, a1, a2, hne, hne2]
      · simp [insP, h1, h2, e1, a1, a2, hne, hne2]
    · simp only [insP, h1, h2, if_false, ih]
theorem find_ins (p : ProdD) (pid : Int) (hne : p.pid ≠ pid) : ∀ l : List ProdD, (insP p l).find? (fun x => x.pid == pid) = l.find? (fun x => x.pid == pid)
  | [] => by
    have : (p.pid == pid) = false := by simpa using hne
    simp [insP, this]
  | x :: l => by
    have hp : (p.pid == pid) = false := by simpa using hne
    rw [insP]
    split
    · split
      · rename_i he
        have hx : (x.pid == pid) = false := by rw [he]; exact hp
        simp [List.find?_cons, hp, hx]
      · simp [List.find?_cons, hp]
    · simp only [List.find?_cons, find_ins p pid hne l]
theorem findF_set (l : List ProdD) (p : ProdD) (pid : Int) (hne : p.pid ≠ pid) : findF (setF l p) pid = findF l pid := by
  unfold findF; rw [setF_insP, find_ins p pid hne]
theorem mayR_ins (p : ProdD) (hk : knownB p = true) : ∀ (l : List ProdD) (b : Int), b < p.pid → mayR l b = true → mayR (insP p l) b = true
  | [], b, hb, _ => by
    have : decide (p.pid ≤ b) = false := decide_eq_false (by omega)
    simp [insP, mayR, this, hk]
  | x :: l, b, hb, h => by
    rw [mayR, Bool.and_eq_true] at h
    have hp : decide (p.pid ≤ b) = false := decide_eq_false (by omega)
    rw [insP]
    split
    · split
      · rename_i h1 he
        rw [mayR, hp, hk]
        rw [he] at h
        simpa using h.2
      · rename_i h1 he
        have hx : decide (x.pid ≤ p.pid) = false := decide_eq_false (by omega)
        have hkx : knownB x = true := by have := h.1; simp at this; exact this.2
        rw [mayR, mayR, hp, hk, hx, hkx]
        simpa using h.2
    · rename_i h1
      rw [mayR, Bool.and_eq_true]
      exact ⟨h.1, mayR_ins p hk l x.pid (by omega) h.2⟩
theorem known_pid {p : ProdD} (h : knownB p = true) : 1 ≤ p.pid := by
  simp only [knownB, headBad, prodB, Bool.and_eq_true, Bool.not_eq_true', Bool.or_eq_false_iff, Bool.not_eq_false', decide_eq_true_eq] at h
  omega
theorem may_set {l : List ProdD} {p : ProdD} (h : mayL l = true) (hk : knownB p = true) : mayL (setF l p) = true := by
  rw [setF_insP]
  exact mayR_ins p hk l 0 (by have := known_pid hk; omega) h
theorem chkR_take : ∀ (l : List SeenD) (b : Int) (n : Nat), chkR l b = true → chkR (l.take n) b = true
  | [], b, n, _ => by simp [chkR]
  | s :: l, b, 0, _ => by simp [chkR]
  | s :: l, b, n + 1, h => by
    rw [chkR, Bool.and_eq_true] at h
    rw [List.take_succ_cons, chkR, h.1, chkR_take l s.seq n h.2]; rfl
/-- What is accepted: the next batch of its producer, or the first of a new one. -/
theorem check_ok {l : List ProdD} {b : BatD} (h0 : (checkF l b).2.2 = 0) (h1 : (checkF l b).2.1 = false) : (oldS l b = (effP l b).seen) ∧ b.seq = (effP l b).next ∧ mayL l = true ∧ batB b = true := by
  obtain ⟨hm, hb⟩ := checkF_may h0
  have hc : checkF l b = judgeF l b := by simp [checkF, hm, hb]
  rw [hc] at h0 h1
  unfold judgeF at h0 h1
  cases hq : findF l b.pid with
  | mk p kn =>
    rw [hq] at h0 h1
    simp only at h0 h1
    have he : oldS l b = (effP l b).seen := by
      unfold oldS effP
      rw [hq]
      cases kn with
      | false => rw [findF_none hq]; simp
      | true =>
        cases q1 : decide (b.epoch < p.epoch) with
        | true => rw [q1] at h0; simp at h0
        | false =>
          simp only [Bool.not_true, Bool.false_or, decide_eq_true_eq, bne_iff_ne, ne_eq]
          have := of_decide_eq_false q1
          by_cases h2 : p.epoch < b.epoch
          · rw [if_pos (by omega), if_pos h2]
          · rw [if_neg (by omega), if_neg h2]
    refine ⟨he, ?_, hm, hb⟩
    have hd : dupF b (effP l b) = (if kn && decide (b.epoch < p.epoch) then (0, false, 100) else dupF b (effP l b)) ∨ False := by
      cases q1 : (kn && decide (b.epoch < p.epoch)) with
      | true => rw [q1] at h0; simp at h0
      | false => left; simp
    rcases hd with hd | hd
    · rw [← hd] at h0 h1
      unfold dupF at h0 h1
      split at h0
      · rename_i s hs; rw [hs] at h1; simp at h1
      · rename_i hs
        split at h0
        · simp at h0
        · rename_i hn; simpa using hn
    · exact hd.elim
theorem takeF_ok {l : List ProdD} {b : BatD} {base : Int} (h : (takeF l b base).2 = 0) : (decide (base < -1) || decide (1048576 < base)) = false ∧ (checkF l b).2.2 = 0 ∧ (checkF l b).2.1 = false ∧ (takeF l b base).1 = setF l ⟨b.pid, b.epoch, behF b, newS l b base⟩ := by
  unfold takeF at h ⊢
  split at h
  · simp at h
  · rename_i h1
    split at h
    · rename_i h2; exact absurd h h2
    · rename_i h2
      split at h
      · simp at h
      · rename_i h3
        have h1' : (decide (base < -1) || decide (1048576 < base)) = false := by simpa using h1
        have h2' : (checkF l b).2.2 = 0 := by simpa using h2
        have h3' : (checkF l b).2.1 = false := by simpa using h3
        refine ⟨h1', h2', h3', ?_⟩
        rw [if_neg h1, if_neg h2, if_neg h3]
theorem known_new {l : List ProdD} {b : BatD} {base : Int} (hb0 : (decide (base < -1) || decide (1048576 < base)) = false) (h0 : (checkF l b).2.2 = 0) (h1 : (checkF l b).2.1 = false) : knownB ⟨b.pid, b.epoch, behF b, newS l b base⟩ = true := by
  obtain ⟨ho, hsq, hm, hbb⟩ := check_ok h0 h1
  simp only [Bool.or_eq_false_iff, decide_eq_false_iff_not] at hb0
  simp only [batB, Bool.and_eq_true, Bool.not_eq_true', Bool.or_eq_false_iff, decide_eq_false_iff_not] at hbb
  obtain ⟨⟨⟨⟨⟨p1, p2⟩, p3, p4⟩, p5, p6⟩, p7, p8⟩, _⟩ := hbb
  have hbeh : behF b = b.seq + (b.recs.length : Int) := wrap_i64 ⟨by omega, by omega⟩
  have hol : (oldS l b).length ≤ 3 := by
    have := find_seen hm b.pid
    unfold oldS; split
    · simp
    · exact this
  have hlen : (newS l b base).length ≤ 3 := by unfold newS; rw [List.length_drop, List.length_append, List.length_singleton]; omega
  have hold : chkR (oldS l b).reverse b.seq = true := by
    rw [ho, hsq]
    unfold effP
    split
    · rfl
    · rename_i hq
      cases hf : findF l b.pid with
      | mk p kn =>
        rw [hf] at hq
        cases kn with
        | false => simp at hq
        | true =>
          have := may_known hm p (findF_mem hf)
          simp only [knownB, Bool.and_eq_true] at this
          exact this.2
  have hx : badS ⟨b.seq, (b.recs.length : Int), base⟩ (behF b) = false := by
    rw [hbeh]
    simp only [badS, bad1, bad2, Bool.or_eq_false_iff, decide_eq_false_iff_not]
    exact ⟨⟨⟨⟨by omega, by omega⟩, by omega⟩, by omega⟩, by omega, by omega⟩
  have hch : chkR (newS l b base).reverse (behF b) = true := by
    unfold newS
    rw [List.reverse_drop]
    refine chkR_take _ _ _ ?_
    rw [List.reverse_append]
    show (!badS ⟨b.seq, (b.recs.length : Int), base⟩ (behF b) && chkR (oldS l b).reverse b.seq) = true
    rw [hx, hold]; rfl
  have hhead : headBad ⟨b.pid, b.epoch, behF b, newS l b base⟩ = false := by
    have q1 : prodB b.pid b.epoch = true := by simp only [prodB, Bool.and_eq_true, decide_eq_true_eq]; exact ⟨⟨⟨by omega, by omega⟩, by omega⟩, by omega⟩
    have q2 : withB (behF b) 0 1048576 = true := by rw [hbeh]; simp only [withB, Bool.and_eq_true, decide_eq_true_eq]; exact ⟨by omega, by omega⟩
    have q3 : decide (3 < ((newS l b base).length : Int)) = false := decide_eq_false (by omega)
    simp only [headBad, q1, q2, q3]; rfl
  simp only [knownB, hhead, hch]; rfl
theorem check_apart {l : List ProdD} {b : BatD} {q : ProdD} (hm : mayL l = true) (hk : knownB q = true) (hne : q.pid ≠ b.pid) : checkF (setF l q) b = checkF l b ∧ ∀ base, newS (setF l q) b base = newS l b base := by
  have hf := findF_set l q b.pid hne
  have hm2 := may_set hm hk
  refine ⟨?_, fun base => by unfold newS oldS; rw [hf]⟩
  unfold checkF judgeF effP
  rw [hf, hm, hm2]
theorem apart {l : List ProdD} {a b : BatD} (hne : a.pid ≠ b.pid) (ha : (takeF l a 7).2 = 0) (hb : (takeF l b 9).2 = 0) :
    (takeF (takeF l a 7).1 b 9).2 = 0 ∧ takeF (takeF l b 9).1 a 7 = takeF (takeF l a 7).1 b 9 ∧ mayL (takeF (takeF l a 7).1 b 9).1 = true ∧ findF (takeF l a 7).1 b.pid = findF l b.pid := by
  obtain ⟨a1, a2, a3, a4⟩ := takeF_ok ha
  obtain ⟨b1, b2, b3, b4⟩ := takeF_ok hb
  have hm := (checkF_may a2).1
  have ka := known_new a1 a2 a3
  have kb := known_new b1 b2 b3
  rw [a4, b4]
  obtain ⟨x1, x2⟩ := check_apart (b := b) hm ka hne
  obtain ⟨y1, y2⟩ := check_apart (b := a) hm kb (fun e => hne e.symm)
  have hx : takeF (setF l ⟨a.pid, a.epoch, behF a, newS l a 7⟩) b 9 = (setF (setF l ⟨a.pid, a.epoch, behF a, newS l a 7⟩) ⟨b.pid, b.epoch, behF b, newS l b 9⟩, 0) := by
    unfold takeF
    rw [b1, if_neg (by simp), x1, b2, if_neg (by simp), b3, if_neg (by simp), x2]
  have hy : takeF (setF l ⟨b.pid, b.epoch, behF b, newS l b 9⟩) a 7 = (setF (setF l ⟨b.pid, b.epoch, behF b, newS l b 9⟩) ⟨a.pid, a.epoch, behF a, newS l a 7⟩, 0) := by
    unfold takeF
    rw [a1, if_neg (by simp), y1, a2, if_neg (by simp), a3, if_neg (by simp), y2]
  rw [hx, hy]
  refine ⟨rfl, ?_, may_set (may_set hm ka) kb, findF_set _ _ _ hne⟩
  rw [setF_insP, setF_insP, setF_insP, setF_insP, ins_comm _ _ hne]
end Go.Proofs.YtafipkbffboebaaDoor
