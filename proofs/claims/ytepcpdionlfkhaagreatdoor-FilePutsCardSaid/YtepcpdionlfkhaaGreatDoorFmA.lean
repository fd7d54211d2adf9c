/- FileDoes, FilePuts: the walks. -/
import Derived.Test.YtepcpdionlfkhaaGreatDoorFlZ
import Derived.Test.YtepcpdionlfkhaaGreatDoorMacI
import Derived.Test.YtepcpdionlfkhaaGreatDoorFlN
import Derived.Test.YtepcpdionlfkhaaGreatDoorFlO
namespace Go.Proofs.YtepcpdionlfkhaaGreatDoor
open Go Go.RowKit
set_option maxHeartbeats 8000000
set_option maxRecDepth 100000
set_option linter.unusedVariables false
set_option linter.unusedSimpArgs false
theorem told_ftup {r : Option (Int × List UInt8 × Int)} (h : ∀ op nm n, r = some (op, nm, n) → codeOk n ∧ nm.length ≤ 1000000) : Fun Tryz.prog 19 (errV r :: ftup r) (boo true) := by
  rcases r with _ | ⟨op, nm, n⟩
  · exact told_nil
  · exact told_fun (h op nm n rfl).1 (h op nm n rfl).2
theorem greatWs_small {ws : List WriteD} (h : greatWs ws = false) : ws.length ≤ 100 ∧ ∀ w ∈ ws, w.file.length ≤ 100 ∧ w.b.length ≤ 4096 := by
  unfold greatWs at h
  simp only [Bool.or_eq_false_iff, decide_eq_false_iff_not, List.any_eq_false] at h
  refine ⟨by omega, fun w hw => ?_⟩
  have := h.2 w hw
  simp only [greatW, Bool.or_eq_true, decide_eq_true_eq, not_or] at this
  omega
theorem fdo_len : ∀ (ws : List WriteD) (s : DiskS), s.fs.length ≤ 1000 → (fdoF s ws).1.fs.length ≤ 1000
  | [], s, h => h
  | w :: ws, s, h => by
    simp only [fdoF]
    split
    · rename_i h0
      exact fdo_len ws _ (valid_small (do_zero h0).1).1
    · by_cases h30 : (doF s w).2 = 30
      · have := do_down h30
        simp only [h30, true_and]
        rw [this]; exact h
      · rw [if_neg (fun q => h30 q.1)]; exact h
theorem fileDoes_fun (s : DiskS) (ws : List WriteD) (hle : s.left ≤ 9223372036854775807) : Fun Tryz.prog 4 [s.d, wrsD ws] (boo true) := by
  have hg := great_fun s.fs s.cap s.left s.down
  have hw := wakes5_fun
  have hgw := greatWrites_fun ws
  cases h1 : greatD s.fs with
  | true =>
    rw [h1] at hg
    (refine Fun.of_body Tryz.func4 rfl rfl Tryz.ntmps4 Tryz.results4 (by simp) ?_)
    (repeat (first | apply Wp.skip | apply Wp.exit | apply Wp.ret | apply Wp.block | apply Wp.label | ((first | refine Wp.sreg (fun K hK => ?_) | refine Wp.reg (fun K hK => ?_) | refine Wp.sdrw mixed (fun K hK => ?_) | refine Wp.drw mixed (fun K hK => ?_) | refine Wp.condG (fun K hK hF => ?_)); (repeat (revert hK; intro hK; simp (maxSteps := 2000000) (disch := omega) only [RUN, TY, RUNB, aop, ofV, SV.ofD, aLd, CV.exact, CV.toD0, oWn, Nat.reduceBEq, Nat.reduceAdd, Nat.reduceLT]; (first | (refine hK _ ?_; clear hK K) | (refine ⟨by kernel_rfl, hK _ ?_⟩; clear hK K) | (refine hK ?_; clear hK hF K) | (refine hF ?_; clear hK hF K) | refine bcf (by assumption) ?_ | refine bca (by assumption) ?_))); fail_if_success (revert hK; intro hK)) | apply Wp.seq))
    simp (maxSteps := 2000000) (disch := omega) only [RUN, RUNB, rD0, bQ0, tQ0]
  | false =>
  rw [h1] at hg
  cases h2 : greatWs ws with
  | true =>
    rw [h2] at hgw
    (refine Fun.of_body Tryz.func4 rfl rfl Tryz.ntmps4 Tryz.results4 (by simp) ?_)
    (repeat (first | apply Wp.skip | apply Wp.exit | apply Wp.ret | apply Wp.block | apply Wp.label | ((first | refine Wp.sreg (fun K hK => ?_) | refine Wp.reg (fun K hK => ?_) | refine Wp.sdrw mixed (fun K hK => ?_) | refine Wp.drw mixed (fun K hK => ?_) | refine Wp.condG (fun K hK hF => ?_)); (repeat (revert hK; intro hK; simp (maxSteps := 2000000) (disch := omega) only [RUN, TY, RUNB, aop, ofV, SV.ofD, aLd, CV.exact, CV.toD0, oWn, Nat.reduceBEq, Nat.reduceAdd, Nat.reduceLT]; (first | (refine hK _ ?_; clear hK K) | (refine ⟨by kernel_rfl, hK _ ?_⟩; clear hK K) | (refine hK ?_; clear hK hF K) | (refine hF ?_; clear hK hF K) | refine bcf (by assumption) ?_ | refine bca (by assumption) ?_))); fail_if_success (revert hK; intro hK)) | apply Wp.seq))
    simp (maxSteps := 2000000) (disch := omega) only [RUN, RUNB, rD0, bQ0, tQ0]
  | false =>
  rw [h2] at hgw
  obtain ⟨hsm, hsb⟩ := great_small h1
  obtain ⟨hn, hww⟩ := greatWs_small h2
  have hsl := hsm.1
  have hww' : ∀ w ∈ ws, w.file.length ≤ 1000000 ∧ w.b.length ≤ 1000000 := fun w hw => by have := hww w hw; omega
  have hp := path_ok ws s hsm hle
  have c1 := fdo_fun s ws hp (by omega) (by omega) hww'
  have c2 := rdo_fun s ws hp (by omega) hww'
  have c3 := told_ftup (r := (fdoF s ws).2) (fun op nm n hr => by
    obtain ⟨h3, w, hw, _, rfl⟩ := fdo_code ws s hr
    exact ⟨h3, (hww' w hw).1⟩)
  have hml := fdo_len ws s (by omega)
  have c4 := refSame_fun (fdoF s ws).1 (fdoF s ws).1 (by omega)
  rw [show sameB (fdoF s ws).1 (fdoF s ws).1 = true by simp [sameB]] at c4
  clear hml hp
  obtain ⟨m, e, hme⟩ : ∃ m e, fdoF s ws = (m, e) := ⟨_, _, rfl⟩
  rw [hme] at c1 c2 c3 c4
  simp only at c1 c2 c3 c4
  obtain ⟨mf, mc, ml, md⟩ := m
  rcases e with _ | ⟨op, nm, n⟩ <;> simp only [ftup, errV] at c1 c2 c3 <;>
  · (refine Fun.of_body Tryz.func4 rfl rfl Tryz.ntmps4 Tryz.results4 (by simp) ?_)
    (repeat (first | apply Wp.skip | apply Wp.exit | apply Wp.ret | apply Wp.block | apply Wp.label | ((first | refine Wp.sreg (fun K hK => ?_) | refine Wp.reg (fun K hK => ?_) | refine Wp.sdrw mixed (fun K hK => ?_) | refine Wp.drw mixed (fun K hK => ?_) | refine Wp.condG (fun K hK hF => ?_)); (repeat (revert hK; intro hK; simp (maxSteps := 2000000) (disch := omega) only [RUN, TY, RUNB, aop, ofV, SV.ofD, aLd, aSt, aXt, CV.exact, Value.oneCell', CV.toD0, oWn, Nat.reduceBEq, Nat.reduceAdd, Nat.reduceLT]; (first | (refine hK _ ?_; clear hK K) | (refine ⟨by kernel_rfl, hK _ ?_⟩; clear hK K) | (refine hK ?_; clear hK hF K) | (refine hF ?_; clear hK hF K) | refine bcf (by assumption) ?_ | refine bca (by assumption) ?_))); fail_if_success (revert hK; intro hK)) | apply Wp.seq))
    simp (maxSteps := 2000000) (disch := omega) only [RUN, RUNB, rD0, bQ0]
theorem filePuts_fun (s : DiskS) (nm : List UInt8) (ls : List (List UInt8)) (hle : s.left ≤ 9223372036854775807) : Fun Tryz.prog 5 [s.d, str nm, strsD ls] (boo true) := by
  have hg := great_fun s.fs s.cap s.left s.down
  have hw := wakes5_fun
  cases h1 : greatD s.fs with
  | true =>
    rw [h1] at hg
    (refine Fun.of_body Tryz.func5 rfl rfl Tryz.ntmps5 Tryz.results5 (by simp) ?_)
    (repeat (first | apply Wp.skip | apply Wp.exit | apply Wp.ret | apply Wp.block | apply Wp.label | ((first | refine Wp.sreg (fun K hK => ?_) | refine Wp.reg (fun K hK => ?_) | refine Wp.sdrw mixed (fun K hK => ?_) | refine Wp.drw mixed (fun K hK => ?_) | refine Wp.condG (fun K hK hF => ?_)); (repeat (revert hK; intro hK; simp (maxSteps := 2000000) (disch := omega) only [RUN, TY, RUNB, aop, ofV, SV.ofD, aLd, CV.exact, CV.toD0, oWn, Nat.reduceBEq, Nat.reduceAdd, Nat.reduceLT]; (first | (refine hK _ ?_; clear hK K) | (refine ⟨by kernel_rfl, hK _ ?_⟩; clear hK K) | (refine hK ?_; clear hK hF K) | (refine hF ?_; clear hK hF K) | refine bcf (by assumption) ?_ | refine bca (by assumption) ?_))); fail_if_success (revert hK; intro hK)) | apply Wp.seq))
    simp (maxSteps := 2000000) (disch := omega) only [RUN, RUNB, rD0, bQ0, tQ0]
  | false =>
  rw [h1] at hg
  by_cases n1 : 100 < nm.length
  · have e1 : decide ((100 : Int) < (nm.length : Int)) = true := decide_eq_true (by omega)
    (refine Fun.of_body Tryz.func5 rfl rfl Tryz.ntmps5 Tryz.results5 (by simp) ?_)
    (repeat (first | apply Wp.skip | apply Wp.exit | apply Wp.ret | apply Wp.block | apply Wp.label | ((first | refine Wp.sreg (fun K hK => ?_) | refine Wp.reg (fun K hK => ?_) | refine Wp.sdrw mixed (fun K hK => ?_) | refine Wp.drw mixed (fun K hK => ?_) | refine Wp.condG (fun K hK hF => ?_)); (repeat (revert hK; intro hK; simp (maxSteps := 2000000) (disch := omega) only [RUN, TY, RUNB, aop, ofV, SV.ofD, aLd, aLen, aBu, CV.exact, CV.toD0, oWn, Nat.reduceBEq, Nat.reduceAdd, Nat.reduceLT, e1]; (first | (refine hK _ ?_; clear hK K) | (refine ⟨by kernel_rfl, hK _ ?_⟩; clear hK K) | (refine hK ?_; clear hK hF K) | (refine hF ?_; clear hK hF K) | refine bcf (by assumption) ?_ | refine bca (by assumption) ?_))); fail_if_success (revert hK; intro hK)) | apply Wp.seq))
    simp (maxSteps := 2000000) (disch := omega) only [RUN, RUNB, rD0, bQ0, tQ0]
  have e1 : decide ((100 : Int) < (nm.length : Int)) = false := decide_eq_false (by omega)
  by_cases n2 : 100 < ls.length
  · have e2 : decide ((100 : Int) < (ls.length : Int)) = true := decide_eq_true (by omega)
    (refine Fun.of_body Tryz.func5 rfl rfl Tryz.ntmps5 Tryz.results5 (by simp) ?_)
    (repeat (first | apply Wp.skip | apply Wp.exit | apply Wp.ret | apply Wp.block | apply Wp.label | ((first | refine Wp.sreg (fun K hK => ?_) | refine Wp.reg (fun K hK => ?_) | refine Wp.sdrw mixed (fun K hK => ?_) | refine Wp.drw mixed (fun K hK => ?_) | refine Wp.condG (fun K hK hF => ?_)); (repeat (revert hK; intro hK; simp (maxSteps := 2000000) (disch := omega) only [RUN, TY, RUNB, aop, ofV, SV.ofD, aLd, aLen, aBu, CV.exact, CV.lenOf, CV.toD0, oWn, Nat.reduceBEq, Nat.reduceAdd, Nat.reduceLT, e1, e2]; (first | (refine hK _ ?_; clear hK K) | (refine ⟨by kernel_rfl, hK _ ?_⟩; clear hK K) | (refine hK ?_; clear hK hF K) | (refine hF ?_; clear hK hF K) | refine bcf (by assumption) ?_ | refine bca (by assumption) ?_))); fail_if_success (revert hK; intro hK)) | apply Wp.seq))
    simp (maxSteps := 2000000) (disch := omega) only [RUN, RUNB, rD0, bQ0, tQ0]
  have e2 : decide ((100 : Int) < (ls.length : Int)) = false := decide_eq_false (by omega)
  have hg5 := great5_fun ls (by omega)
  cases h3 : great5 ls with
  | true =>
    rw [h3] at hg5
    (refine Fun.of_body Tryz.func5 rfl rfl Tryz.ntmps5 Tryz.results5 (by simp) ?_)
    (repeat (first | apply Wp.skip | apply Wp.exit | apply Wp.ret | apply Wp.block | apply Wp.label | ((first | refine Wp.sreg (fun K hK => ?_) | refine Wp.reg (fun K hK => ?_) | refine Wp.sdrw mixed (fun K hK => ?_) | refine Wp.drw mixed (fun K hK => ?_) | refine Wp.condG (fun K hK hF => ?_)); (repeat (revert hK; intro hK; simp (maxSteps := 2000000) (disch := omega) only [RUN, TY, RUNB, aop, ofV, SV.ofD, aLd, aLen, aBu, CV.exact, CV.lenOf, CV.toD0, oWn, Nat.reduceBEq, Nat.reduceAdd, Nat.reduceLT, e1, e2]; (first | (refine hK _ ?_; clear hK K) | (refine ⟨by kernel_rfl, hK _ ?_⟩; clear hK K) | (refine hK ?_; clear hK hF K) | (refine hF ?_; clear hK hF K) | refine bcf (by assumption) ?_ | refine bca (by assumption) ?_))); fail_if_success (revert hK; intro hK)) | apply Wp.seq))
    simp (maxSteps := 2000000) (disch := omega) only [RUN, RUNB, rD0, bQ0, tQ0]
  | false =>
  rw [h3] at hg5
  obtain ⟨hsm, hsb⟩ := great_small h1
  have hsl := hsm.1
  have hl5 := great5_mem h3
  have hll : ∀ l ∈ ls, l.length ≤ 1000000 := fun l hl => by have := hl5 l hl; omega
  have hbl := bytesF_len (ls := ls) (n := 100) (by omega)
  have hmem : ∀ f ∈ s.fs, f.b.length ≤ 1000000 := fun f hf => (hsm.2 f hf).2
  have c1 := fput_fun s nm ls (by omega) (by omega) (by omega) hll (by omega) (path_ok _ s hsm hle)
  have c2 := rput_fun s nm ls (by omega) (by omega) hll (by omega) (path_ok _ s hsm hle)
  have hputc : ∀ op nm' n, (fputF s nm ls).2 = some (op, nm', n) → codeOk n ∧ nm'.length ≤ 1000000 := fun op nm' n hr => by
    unfold fputF at hr
    split at hr
    · obtain ⟨h3, w, hw, _, rfl⟩ := fdo_code _ s hr
      simp only [putW, List.mem_cons, List.not_mem_nil, or_false] at hw
      rcases hw with rfl | rfl <;> exact ⟨h3, by simp only; omega⟩
    · simp only [Option.some.injEq, Prod.mk.injEq] at hr
      obtain ⟨_, rfl, rfl⟩ := hr
      exact ⟨.inl rfl, by omega⟩
  have c3 := told_ftup hputc
  have hml : (fputF s nm ls).1.fs.length ≤ 1000 := by
    unfold fputF
    split
    · exact fdo_len _ s hsl
    · exact hsl
  have c4 := refSame_fun (fputF s nm ls).1 (fputF s nm ls).1 (by omega)
  rw [show sameB (fputF s nm ls).1 (fputF s nm ls).1 = true by simp [sameB]] at c4
  have c5 := fmend_fun s nm (by omega) (fun _ => by omega) hmem (path_ok _ s hsm hle)
  have c6 := rmend_fun s nm (by omega) (fun _ => by omega) hmem (path_ok _ s hsm hle)
  have hmendc : ∀ op nm' n, (fmendF s nm).2 = some (op, nm', n) → codeOk n ∧ nm'.length ≤ 1000000 := fun op nm' n hr => by
    unfold fmendF at hr
    obtain ⟨h3, w, hw, _, rfl⟩ := fdo_code _ s hr
    unfold mendW at hw
    split at hw
    · simp only [List.mem_cons, List.not_mem_nil, or_false] at hw
      subst hw; exact ⟨h3, by simp only; omega⟩
    · cases hw
  have c7 := told_ftup hmendc
  have hml2 : (fmendF s nm).1.fs.length ≤ 1000 := fdo_len _ s hsl
  have c8 := refSame_fun (fmendF s nm).1 (fmendF s nm).1 (by omega)
  rw [show sameB (fmendF s nm).1 (fmendF s nm).1 = true by simp [sameB]] at c8
  clear hputc hmendc hml hml2
  obtain ⟨m, e, hme⟩ : ∃ m e, fputF s nm ls = (m, e) := ⟨_, _, rfl⟩
  rw [hme] at c1 c2 c3 c4
  obtain ⟨m2, f, hmf⟩ : ∃ m e, fmendF s nm = (m, e) := ⟨_, _, rfl⟩
  rw [hmf] at c5 c6 c7 c8
  simp only at c1 c2 c3 c4 c5 c6 c7 c8
  obtain ⟨mf, mc, ml, md⟩ := m
  obtain ⟨mf2, mc2, ml2, md2⟩ := m2
  (rcases e with _ | ⟨op, nm1, n⟩ <;> rcases f with _ | ⟨op2, nm2, k⟩) <;> simp only [ftup, errV] at c1 c2 c3 c5 c6 c7 <;>
  · (refine Fun.of_body Tryz.func5 rfl rfl Tryz.ntmps5 Tryz.results5 (by simp) ?_)
    (repeat (first | apply Wp.skip | apply Wp.exit | apply Wp.ret | apply Wp.block | apply Wp.label | ((first | refine Wp.sreg (fun K hK => ?_) | refine Wp.reg (fun K hK => ?_) | refine Wp.sdrw mixed (fun K hK => ?_) | refine Wp.drw mixed (fun K hK => ?_) | refine Wp.condG (fun K hK hF => ?_)); (repeat (revert hK; intro hK; simp (maxSteps := 2000000) (disch := omega) only [RUN, TY, RUNB, aop, ofV, SV.ofD, aLd, aSt, aLen, aXt, aBu, CV.exact, CV.lenOf, Value.oneCell', CV.toD0, oWn, Nat.reduceBEq, Nat.reduceAdd, Nat.reduceLT, e1, e2]; (first | (refine hK _ ?_; clear hK K) | (refine ⟨by kernel_rfl, hK _ ?_⟩; clear hK K) | (refine hK ?_; clear hK hF K) | (refine hF ?_; clear hK hF K) | refine bcf (by assumption) ?_ | refine bca (by assumption) ?_))); fail_if_success (revert hK; intro hK)) | apply Wp.seq))
    simp (maxSteps := 2000000) (disch := omega) only [RUN, RUNB, rD0, bQ0]
end Go.Proofs.YtepcpdionlfkhaaGreatDoor
