/- Copies folded, in plain words: the log. -/
import Derived.Test.YtafipkbffboebaaDoorRhK
import Derived.Test.YtafipkbffboebaaDoorCpMa
namespace Go.Proofs.YtafipkbffboebaaDoor
open Go Go.RowKit
set_option maxHeartbeats 2000000
set_option maxRecDepth 100000
set_option linter.unusedVariables false
set_option linter.unusedSimpArgs false
theorem okKind_copy {b : BatD} (hb : batB b = true) (ht : b.txn = true) {y : Bool} {nx : Int} (hn : 0 ≤ nx ∧ nx ≤ 1048576) (hy : y = false → nx = 0) : okKind ⟨3, b, y, nx, 0, rowZ, prodZ⟩ = true := by
  unfold okKind
  have h1 : mayI ⟨3, b, y, nx, 0, rowZ, prodZ⟩ = (b.txn && ((!y || withB nx 0 1048576) && (batB b && decide ((⟨3, batZ, false, if y then 0 else nx, 0, rowZ, prodZ⟩ : EntD) = zE 3)))) := rfl
  rw [h1, ht, hb]
  have h2 : withB nx 0 1048576 = true := by unfold withB; simp; omega
  cases y with
  | true => rw [h2]; rfl
  | false => rw [hy rfl]; rfl
theorem wI_one (pid : Int) (L : List BatD) : wI [(pid, L)] pid = 0 := by simp [wI, List.findIdx_cons]
theorem wOk_one (pid : Int) (L : List BatD) : wOk [(pid, L)] pid = true := by unfold wOk; rw [wI_one]; rfl
theorem wAt_one (pid : Int) (L : List BatD) : wAt [(pid, L)] pid = L := by unfold wAt; rw [wI_one]; rfl
def prefW (pid : Int) (L : List BatD) : Wts := if L = [] then [] else [(pid, L)]
theorem pref_at (pid : Int) (L : List BatD) : wAt (prefW pid L) pid = L ∧ wI (prefW pid L) pid = 0 ∧ (∀ M, (ensW (prefW pid L) pid).set 0 (pid, M) = [(pid, M)]) ∧ (ensW (prefW pid L) pid).eraseIdx 0 = [] := by
  unfold prefW
  by_cases h : L = []
  · subst h
    rw [if_pos rfl]
    exact ⟨rfl, rfl, fun M => rfl, rfl⟩
  · rw [if_neg h]
    have e : ensW [(pid, L)] pid = [(pid, L)] := by unfold ensW; rw [wOk_one]; rfl
    rw [e]
    exact ⟨wAt_one pid L, wI_one pid L, fun M => rfl, rfl⟩
theorem bad_pref {pid ep : Int} {l : List BatD} (hC : HasC pid ep l) {k : Nat} (hk : k < l.length) {b : BatD} (hb : b.epoch = ep) : badC (l.take k) b = false := by
  unfold badC
  have h8 := hC.len
  have h1 : decide ((8 : Int) ≤ ((l.take k).length : Int)) = false := decide_eq_false (by rw [List.length_take]; omega)
  rw [h1, Bool.false_or]
  cases hq : l.take k with
  | nil => rfl
  | cons c r =>
    have hm : c ∈ l := List.mem_of_mem_take (by rw [hq]; exact List.mem_cons_self ..)
    have := (hC.bat c hm).2.2.2
    simp [this, hb]
theorem take_nil_iff {l : List BatD} {k : Nat} (hk : k < l.length) : l.take k ++ [l[k]] = l.take (k + 1) := (List.take_succ_eq_append_getElem hk).symm
theorem logStep3 {s t : RefS} {e : EntD} (ho : okKind e = true) (hk : e.kind = 3) (hc : copiedS s e = (true, t)) (hf : t.p.fin ≤ 1048576) : logStep s e = some t := by
  have hn : nextH s e = (true, t) := by
    unfold nextH
    rw [if_neg (by omega), if_pos hk, hc]
  unfold logStep
  rw [ho, hn, if_neg (by simp), if_neg (by simp), if_neg (by show ¬ 1048576 < t.p.fin; omega)]
theorem log_pref (o : OpenD) (hC : HasC o.pid o.epoch o.bats) : ∀ k, k < o.bats.length → ∃ v, logR ref0 ((cpL o).take k) = some ⟨pZ, prefW o.pid (o.bats.take k), v⟩
  | 0, _ => ⟨0, rfl⟩
  | k + 1, hk => by
    obtain ⟨v, hv⟩ := log_pref o hC k (by omega)
    have hlt : k < o.bats.length := by omega
    obtain ⟨hb, ht, hp, he⟩ := hC.bat _ (List.getElem_mem hlt)
    have htk : (cpL o).take (k + 1) = (cpL o).take k ++ [copyE o k o.bats[k]] := mkL_take o.bats (copyE o) k hlt
    have hce : copyE o k o.bats[k] = ⟨3, o.bats[k], false, 0, 0, rowZ, prodZ⟩ := by unfold copyE; rw [if_neg (by omega)]
    obtain ⟨p1, p2, p3, p4⟩ := pref_at o.pid (o.bats.take k)
    have hcs : copiedS ⟨pZ, prefW o.pid (o.bats.take k), v⟩ ⟨3, o.bats[k], false, 0, 0, rowZ, prodZ⟩ = (true, ⟨pZ, [(o.pid, o.bats.take (k + 1))], ensV ⟨pZ, prefW o.pid (o.bats.take k), v⟩ o.pid⟩) := by
      unfold copiedS
      dsimp only
      rw [hp, p1, p2, bad_pref hC hlt he, if_neg (by simp), if_pos rfl, p3, take_nil_iff hlt]
    refine ⟨ensV ⟨pZ, prefW o.pid (o.bats.take k), v⟩ o.pid, ?_⟩
    rw [htk, logR_app, hv]
    show (match logStep _ _ with | none => none | some t => logR t []) = _
    rw [hce, logStep3 (okKind_copy hb ht ⟨by decide, by decide⟩ (fun _ => rfl)) rfl hcs (by show (0 : Int) ≤ 1048576; decide)]
    have hne : prefW o.pid (o.bats.take (k + 1)) = [(o.pid, o.bats.take (k + 1))] := by
      unfold prefW
      rw [if_neg]
      intro h; have := congrArg List.length h; rw [List.length_take, List.length_nil] at this; omega
    rw [hne]; rfl
theorem log_last (o : OpenD) (hC : HasC o.pid o.epoch o.bats) : ∃ v, logR ref0 (cpL o) = some ⟨{ (takesS pZ o.bats).2 with prods := clearR (takesS pZ o.bats).2.prods o.pid }, [], v⟩ := by
  obtain ⟨h1, h8⟩ := hC.len
  obtain ⟨k, hk⟩ : ∃ k, o.bats.length = k + 1 := ⟨o.bats.length - 1, by omega⟩
  have hlt : k < o.bats.length := by omega
  obtain ⟨v, hv⟩ := log_pref o hC k hlt
  obtain ⟨hb, ht, hp, he⟩ := hC.bat _ (List.getElem_mem hlt)
  have hfull : (cpL o).take (k + 1) = cpL o := List.take_of_length_le (by show (mkL o.bats (copyE o)).length ≤ _; rw [mkL_len]; omega)
  have htk : cpL o = (cpL o).take k ++ [copyE o k o.bats[k]] := by
    exact hfull.symm.trans (mkL_take o.bats (copyE o) k hlt)
  have hlast : lastF o = behF o.bats[k] := by
    unfold lastF
    rw [List.getLast?_eq_getElem?, hk, Nat.add_sub_cancel, List.getElem?_eq_getElem hlt]
  have hce : copyE o k o.bats[k] = ⟨3, o.bats[k], true, behF o.bats[k], 0, rowZ, prodZ⟩ := by unfold copyE; rw [if_pos (by omega), hlast]
  obtain ⟨p1, p2, p3, p4⟩ := pref_at o.pid (o.bats.take k)
  have hall : o.bats.take k ++ [o.bats[k]] = o.bats := by rw [take_nil_iff hlt, List.take_of_length_le (by omega)]
  obtain ⟨t1, t2, t3, t4, t5, t6⟩ := takes_run o.pid o.epoch o.bats pZ 0 (fun b hb => ⟨(hC.bat b hb).1, (hC.bat b hb).2.2⟩) hC.chain (.inl ⟨rfl, rfl⟩)
  have hsr := sumR_bound o.bats (fun b hb => (batB_pid (hC.bat b hb).1).2)
  have hbeh : 0 ≤ behF o.bats[k] ∧ behF o.bats[k] ≤ 1048576 := by
    rw [beh_bat hb]
    have hb' := hb
    unfold batB at hb'
    simp only [Bool.and_eq_true, Bool.not_eq_true', Bool.or_eq_false_iff, decide_eq_false_iff_not] at hb'
    omega
  have hcs : copiedS ⟨pZ, prefW o.pid (o.bats.take k), v⟩ ⟨3, o.bats[k], true, behF o.bats[k], 0, rowZ, prodZ⟩ = (true, ⟨{ (takesS pZ o.bats).2 with prods := clearR (takesS pZ o.bats).2.prods o.pid }, [], ensV ⟨pZ, prefW o.pid (o.bats.take k), v⟩ o.pid + 1⟩) := by
    unfold copiedS
    dsimp only
    rw [hp, p1, p2, bad_pref hC hlt he, if_neg (by simp), if_neg (by simp), if_neg (by simp), hall, t1, if_neg (by simp), p4]
  refine ⟨ensV ⟨pZ, prefW o.pid (o.bats.take k), v⟩ o.pid + 1, ?_⟩
  rw [htk, logR_app, hv]
  show (match logStep _ _ with | none => none | some t => logR t []) = _
  rw [hce, logStep3 (okKind_copy hb ht hbeh (fun h => by cases h)) rfl hcs (by
    show (takesS pZ o.bats).2.fin ≤ 1048576
    rw [t5]
    show (0 : Int) + (sumR o.bats : Int) ≤ 1048576
    omega)]
  rfl
theorem copies_whole (o : OpenD) (hC : HasC o.pid o.epoch o.bats) : ∃ t, fold14 (cpL o) [] = some t ∧ t.p.rows.length = sumR o.bats ∧ t.p.fin = (sumR o.bats : Int) ∧ t.p.opens = [] ∧ SmallL t.p.prods ∧ ∃ x, findF t.p.prods o.pid = (x, true) ∧ x.next = (sumR o.bats : Int) ∧ x.seen = [] := by
  obtain ⟨v, hv⟩ := log_last o hC
  have h1 := hC.len
  obtain ⟨t1, t2, t3, t4, t5, t6⟩ := takes_run o.pid o.epoch o.bats pZ 0 (fun b hb => ⟨(hC.bat b hb).1, (hC.bat b hb).2.2⟩) hC.chain (.inl ⟨rfl, rfl⟩)
  have hlg := logR_ok (cpL o) 0 ref0 _ fok14_0 hv
  rw [show (cpL o).length = o.bats.length from mkL_len _ _] at hlg
  refine ⟨_, by unfold fold14; rw [hv]; rfl, ?_, ?_, ?_, ⟨by have := hlg.prods; omega, fun x hx => by have := hlg.seen x hx; omega⟩, ?_⟩
  · show (takesS pZ o.bats).2.rows.length = _
    rw [t4]; show 0 + _ = _; omega
  · show (takesS pZ o.bats).2.fin = _
    rw [t5]; show (0 : Int) + _ = _; omega
  · exact t6
  · have hne := t3 (.inr (fun h => by rw [h] at h1; simp at h1))
    rcases t2 with ⟨h, _⟩ | ⟨q, h2, h3, h4, h5, h6⟩
    · exact absurd h hne
    · show ∃ x, findF (clearR (takesS pZ o.bats).2.prods o.pid) o.pid = _ ∧ _
      rw [h2]
      have hf : findF [q] o.pid = (q, true) := by rw [findF_cons, if_pos h4]
      have hc : clearR [q] o.pid = [⟨q.pid, q.epoch, q.next, []⟩] := by
        unfold clearR
        rw [hf, if_pos rfl, setF_insP]
        simp [insP]
      rw [hc, findF_cons, if_pos h4]
      exact ⟨_, rfl, by show q.next = _; rw [h6]; omega, rfl⟩
theorem copies_part (o : OpenD) (hC : HasC o.pid o.epoch o.bats) (n : Nat) (hn : n < o.bats.length) : ∃ t, fold14 ((cpL o).take n) [⟨o.pid, o.bats.map batE⟩] = some t ∧ t.p.rows = [] ∧ t.p.fin = 0 ∧ t.p.opens = [⟨o.pid, o.epoch, o.bats⟩] := by
  obtain ⟨v, hv⟩ := log_pref o hC n hn
  obtain ⟨h1, h8⟩ := hC.len
  have hbne : o.bats ≠ [] := fun h => by rw [h] at h1; simp at h1
  obtain ⟨q, q1, q2, q3, q4⟩ := side_run o.pid o.epoch ⟨o.pid, o.bats.map batE⟩ rfl (fun y r hy => by
    cases hq : o.bats with
    | nil => exact absurd hq hbne
    | cons b l =>
      have hy : (o.bats.map batE) = y :: r := hy
      rw [hq] at hy
      cases hy
      exact (hC.bat b (by rw [hq]; exact List.mem_cons_self ..)).2.2.2) o.bats [] pZ 0 hC.bat hC.chain (.inl ⟨rfl, rfl⟩) rfl (by simpa using h8)
  rw [List.nil_append, if_neg hbne] at q4
  have hs : sideS ⟨pZ, prefW o.pid (o.bats.take n), v⟩ ⟨o.pid, o.bats.map batE⟩ = (true, ⟨q, prefW o.pid (o.bats.take n), v⟩) := by
    unfold sideS
    dsimp only
    rw [if_neg (by rw [List.length_map]; omega), q1]
  have hr : sidesR [⟨o.pid, o.bats.map batE⟩] ⟨pZ, prefW o.pid (o.bats.take n), v⟩ 0 [⟨o.pid, o.bats.map batE⟩] = some ⟨q, prefW o.pid (o.bats.take n), v⟩ := by
    show (if sidesOkAt _ 0 = false then none else if (sideS _ _).1 = false then none else some (sideS _ _).2) = _
    rw [hs, if_neg (by show ¬ true = false; simp), if_neg (by simp)]
  have hw : (prefW o.pid (o.bats.take n)).all (waitOk q) = true := by
    unfold prefW
    split
    · rfl
    · rw [List.all_cons, List.all_nil, Bool.and_true]
      unfold waitOk
      have e2 : openI q.opens o.pid = 0 := by rw [q4]; simp [openI, List.findIdx_cons]
      have e1 : openB q.opens o.pid = true := by unfold openB; rw [e2, q4]; simp
      dsimp only
      rw [e1, e2, q4]
      have hl : (o.bats.take n).length = n := by rw [List.length_take]; omega
      simp [hl, hn]
  refine ⟨⟨q, prefW o.pid (o.bats.take n), v⟩, ?_, q2, q3, q4⟩
  unfold fold14
  rw [hv]
  dsimp only
  rw [hr]
  dsimp only
  rw [hw, if_pos rfl]
end Go.Proofs.YtafipkbffboebaaDoor
