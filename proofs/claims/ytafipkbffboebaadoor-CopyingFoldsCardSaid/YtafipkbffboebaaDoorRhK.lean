/- Copies folded, in plain words. -/
import Derived.Test.YtafipkbffboebaaDoorRhMb
import Derived.Test.YtafipkbffboebaaDoorPlM
namespace Go.Proofs.YtafipkbffboebaaDoor
open Go Go.RowKit
set_option maxHeartbeats 2000000
set_option maxRecDepth 100000
set_option linter.unusedVariables false
set_option linter.unusedSimpArgs false
/-- The batches of a transaction that has copies, from n on. -/
def chN : Int → List BatD → Prop
  | _, [] => True
  | n, b :: l => b.seq = n ∧ chN (n + (b.recs.length : Int)) l
structure HasC (pid ep : Int) (l : List BatD) : Prop where
  bat : ∀ b ∈ l, batB b = true ∧ b.txn = true ∧ b.pid = pid ∧ b.epoch = ep
  chain : chN 0 l
  len : 1 ≤ l.length ∧ l.length ≤ 8
theorem beh_bat {b : BatD} (h : batB b = true) : behF b = b.seq + (b.recs.length : Int) := by
  unfold batB at h
  simp only [Bool.and_eq_true, Bool.not_eq_true', Bool.or_eq_false_iff, decide_eq_false_iff_not] at h
  exact wrap_i64 (by omega)
/-- One producer that takes. -/
theorem take_one {ps : List ProdD} {b : BatD} (hb : batB b = true) (h : (ps = [] ∧ b.seq = 0) ∨ ∃ q, ps = [q] ∧ mayL [q] = true ∧ q.pid = b.pid ∧ q.epoch = b.epoch ∧ b.seq = q.next) :
    (takeF ps b (-1)).2 = 0 ∧ ∃ q, (takeF ps b (-1)).1 = [q] ∧ mayL [q] = true ∧ q.pid = b.pid ∧ q.epoch = b.epoch ∧ q.next = b.seq + (b.recs.length : Int) := by
  have hok : OkT ps b := by
    rcases h with ⟨rfl, h0⟩ | ⟨q, rfl, hm, hp, he, hn⟩
    · have hc : checkF [] b = (-1, false, 0) := by
        unfold checkF judgeF
        rw [hb]
        have hf : findF [] b.pid = (pzD, false) := rfl
        have hm : mayL [] = true := rfl
        rw [hf, hm]
        simp only [Bool.not_true, Bool.or_self, Bool.false_eq_true, if_false, Bool.false_and]
        have heff : effP [] b = pzD := by unfold effP; rw [hf]; rfl
        rw [heff]
        unfold dupF
        have : pzD.seen.find? (sameS b) = none := rfl
        rw [this]
        have : pzD.next = 0 := rfl
        simp [this, h0]
      exact ⟨by rw [hc], by rw [hc]⟩
    · have hf : findF [q] b.pid = (q, true) := by rw [findF_cons, if_pos hp]
      exact (okT_of hm hb hf he hn).1
  have hz := (takeF_iff ps b (-1) (by omega)).2 ⟨hok.err, hok.dup⟩
  refine ⟨hz, newP ps b (-1), ?_, ?_, rfl, rfl, beh_bat hb⟩
  · rw [hok.val (-1) (by omega)]
    rcases h with ⟨rfl, h0⟩ | ⟨q, rfl, hm, hp, he, hn⟩
    · rfl
    · rw [setF_insP]
      unfold insP
      have h1 : ¬ q.pid < (newP [q] b (-1)).pid := by show ¬ q.pid < b.pid; omega
      have h2 : q.pid = (newP [q] b (-1)).pid := hp
      simp [h1, h2, insP]
  · have := take_may hz
    rw [hok.val (-1) (by omega)] at this
    rcases h with ⟨rfl, h0⟩ | ⟨q, rfl, hm, hp, he, hn⟩
    · exact this
    · have hk := hok.known (-1) (by omega)
      have h1 : 1 ≤ (newP [q] b (-1)).pid := known_pid hk
      unfold mayL mayR
      simp only [mayR, hk, Bool.not_true, Bool.or_false, Bool.and_true]
      simp; omega
def PQ (ps : List ProdD) (n pid ep : Int) : Prop := (ps = [] ∧ n = 0) ∨ ∃ q, ps = [q] ∧ mayL [q] = true ∧ q.pid = pid ∧ q.epoch = ep ∧ q.next = n
theorem PQ.take {ps : List ProdD} {n pid ep : Int} {b : BatD} (h : PQ ps n pid ep) (hb : batB b = true) (hp : b.pid = pid) (he : b.epoch = ep) (hs : b.seq = n) : (takeF ps b (-1)).2 = 0 ∧ PQ (takeF ps b (-1)).1 (n + (b.recs.length : Int)) pid ep ∧ (takeF ps b (-1)).1 ≠ [] := by
  obtain ⟨h1, q, h2, h3, h4, h5, h6⟩ := take_one (ps := ps) hb (by
    rcases h with ⟨h, h0⟩ | ⟨q, h1, h2, h3, h4, h5⟩
    · exact .inl ⟨h, by omega⟩
    · exact .inr ⟨q, h1, h2, by omega, by omega, by omega⟩)
  refine ⟨h1, .inr ⟨q, h2, h3, by omega, by omega, by omega⟩, by rw [h2]; simp⟩
theorem takes_run (pid ep : Int) : ∀ (L : List BatD) (p : PartD) (n : Int), (∀ b ∈ L, batB b = true ∧ b.pid = pid ∧ b.epoch = ep) → chN n L → PQ p.prods n pid ep →
    (takesS p L).1 = true ∧ PQ (takesS p L).2.prods (n + (sumR L : Int)) pid ep ∧ (p.prods ≠ [] ∨ L ≠ [] → (takesS p L).2.prods ≠ []) ∧ (takesS p L).2.rows.length = p.rows.length + sumR L ∧ (takesS p L).2.fin = p.fin + (sumR L : Int) ∧ (takesS p L).2.opens = p.opens
  | [], p, n, _, _, h => ⟨rfl, by simpa [takesS, sumR] using h, fun h2 => by rcases h2 with h2 | h2; exact h2; exact absurd rfl h2, by simp [takesS, sumR], by simp [takesS, sumR], rfl⟩
  | b :: L, p, n, ha, hc, h => by
    obtain ⟨hb, hp, he⟩ := ha b (List.mem_cons_self ..)
    obtain ⟨h1, h2, h3⟩ := h.take hb hp he hc.1
    have e : takesS p (b :: L) = takesS (addT p b) L := by show (if _ then _ else _) = _; rw [if_neg (by rw [h1]; simp)]
    obtain ⟨q1, q2, q3, q4, q5, q6⟩ := takes_run pid ep L (addT p b) (n + (b.recs.length : Int)) (fun x hx => ha x (List.mem_cons_of_mem _ hx)) hc.2 h2
    rw [e]
    have hr : (addT p b).rows.length = p.rows.length + b.recs.length := by show (p.rows ++ rowsF b p.fin).length = _; rw [List.length_append, rows_len']
    have hf : (addT p b).fin = p.fin + (b.recs.length : Int) := rfl
    have hs : ((sumR (b :: L) : Nat) : Int) = (b.recs.length : Int) + (sumR L : Int) := by simp [sumR]
    refine ⟨q1, by rw [hs, ← Int.add_assoc]; exact q2, fun _ => q3 (.inl h3), ?_, ?_, q6⟩
    · rw [q4, hr]; simp only [sumR]; omega
    · rw [q5, hf, hs]; omega
theorem put_run {p : PartD} {done : List BatD} {b : BatD} (ho : p.opens = if done = [] then [] else [⟨b.pid, b.epoch, done⟩]) (hl : done.length < 8) : putR p b = some { p with opens := [⟨b.pid, b.epoch, done ++ [b]⟩] } := by
  unfold putR
  by_cases hd : done = []
  · subst hd
    rw [if_pos rfl] at ho
    have h1 : openB p.opens b.pid = false := by rw [ho]; rfl
    have h2 : openI p.opens b.pid = 0 := by rw [ho]; rfl
    rw [h1, ho]
    have h2 : openI [] b.pid = 0 := rfl
    simp [h2]
  · rw [if_neg hd] at ho
    have h2 : openI p.opens b.pid = 0 := by rw [ho]; simp [openI, List.findIdx_cons]
    have h1 : openB p.opens b.pid = true := by unfold openB; rw [h2, ho]; simp
    rw [h1, h2, ho]
    have : ¬ 8 ≤ done.length := by omega
    simp [this]
theorem side_run (pid ep : Int) (x : SideD) (hx : x.pid = pid) (hxe : ∀ y r, x.l = y :: r → y.b.epoch = ep) : ∀ (L : List BatD) (done : List BatD) (p : PartD) (n : Int), (∀ b ∈ L, batB b = true ∧ b.txn = true ∧ b.pid = pid ∧ b.epoch = ep) → chN n L → PQ p.prods n pid ep → (p.opens = if done = [] then [] else [⟨pid, ep, done⟩]) → (done ++ L).length ≤ 8 →
    ∃ q, sideR x p (L.map batE) = (true, q) ∧ q.rows = p.rows ∧ q.fin = p.fin ∧ q.opens = (if done ++ L = [] then [] else [⟨pid, ep, done ++ L⟩])
  | [], done, p, n, _, _, h, ho, _ => ⟨p, rfl, rfl, rfl, by rw [List.append_nil]; exact ho⟩
  | b :: L, done, p, n, ha, hc, h, ho, hl => by
    obtain ⟨hb, ht, hp, he⟩ := ha b (List.mem_cons_self ..)
    obtain ⟨h1, h2, h3⟩ := h.take hb hp he hc.1
    have hbad : sideBad x (batE b) = false := by
      unfold sideBad
      have e1 : okKind (batE b) = true := okKind_bat hb
      have e2 : (batE b).kind = 0 := rfl
      have e3 : (batE b).b = b := rfl
      rw [e1, e2, e3, ht]
      have e4 : (b.pid != x.pid) = false := by simp [hp, hx]
      rw [e4]
      cases hxl : x.l with
      | nil => rfl
      | cons y r => have := hxe y r hxl; simp; omega
    have hput := put_run (p := p) (done := done) (b := b) (by rw [hp, he]; exact ho) (by rw [List.length_append, List.length_cons] at hl; omega)
    have hst : sideT x p (batE b) = some { p with opens := [⟨b.pid, b.epoch, done ++ [b]⟩], prods := (takeF p.prods b (-1)).1 } := by
      unfold sideT
      rw [hbad]
      show txnR p b = _
      unfold txnR
      rw [if_neg (by rw [h1]; simp), hput]
    have e : sideR x p ((b :: L).map batE) = sideR x { p with opens := [⟨b.pid, b.epoch, done ++ [b]⟩], prods := (takeF p.prods b (-1)).1 } (L.map batE) := by
      show (match sideT x p (batE b) with | none => (false, p) | some q => sideR x q (L.map batE)) = _
      rw [hst]
    obtain ⟨q, q1, q2, q3, q4⟩ := side_run pid ep x hx hxe L (done ++ [b]) { p with opens := [⟨b.pid, b.epoch, done ++ [b]⟩], prods := (takeF p.prods b (-1)).1 } (n + (b.recs.length : Int)) (fun x hx => ha x (List.mem_cons_of_mem _ hx)) hc.2 h2 (by rw [if_neg (by simp), hp, he]) (by rw [List.append_assoc]; exact hl)
    rw [List.append_assoc] at q4
    exact ⟨q, e.trans q1, q2, q3, q4⟩
end Go.Proofs.YtafipkbffboebaaDoor
