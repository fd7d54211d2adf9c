/- The document's Do, Put, Mend of files. -/
import Derived.Test.YtepcpdionlfkhaaGreatDoorFlK
import Derived.Test.YtepcpdionlfkhaaGreatDoorFlM
import Derived.Test.YtepcpdionlfkhaaGreatDoorMacK
import Derived.Test.YtepcpdionlfkhaaGreatDoorMacI
namespace Go.Proofs.YtepcpdionlfkhaaGreatDoor
open Go Go.RowKit
set_option maxHeartbeats 8000000
set_option maxRecDepth 100000
set_option linter.unusedVariables false
set_option linter.unusedSimpArgs false
theorem fits_code {fs : List FileD} {cap : Int} {w : WriteD} {f : FileD} {is : Bool} {t : List UInt8} {n : Int} (h : fitsO fs cap w f is = some (t, n)) : n = 2 ∨ n = 3 ∨ n = 31 ∨ n = 32 := by
  unfold fitsO at h
  split at h
  · split at h
    · cases h; simp
    · split at h <;> cases h; simp
  · split at h
    · cases h; simp
    · split at h <;> cases h; simp
theorem do_code (s : DiskS) (w : WriteD) : (doF s w).2 = 0 ∨ codeOk (doF s w).2 := by
  unfold doF
  split
  · exact .inr (.inl rfl)
  · split
    · exact .inr (.inr (.inr (.inl rfl)))
    · split
      · exact .inr (.inr (.inr (.inl rfl)))
      · split
        · rename_i t n h
          rcases fits_code h with rfl | rfl | rfl | rfl
          · exact .inr (.inl rfl)
          · exact .inr (.inr (.inl rfl))
          · exact .inr (.inr (.inr (.inr (.inl rfl))))
          · exact .inr (.inr (.inr (.inr (.inr rfl))))
        · exact .inl rfl
theorem do_down {s : DiskS} {w : WriteD} (h : (doF s w).2 = 30) : (if (doF s w).1.down = true then (doF s w).1 else s) = ⟨s.fs, s.cap, s.left, true⟩ := by
  obtain ⟨fs, cap, left, down⟩ := s
  unfold doF at h ⊢
  simp only at h ⊢
  split at h
  · cases h
  · rename_i h1
    rw [if_neg h1]
    split at h
    · rename_i h2
      rw [if_pos h2]
      simp only [Bool.false_eq_true, if_false]
      rw [h2]
    · rename_i h2
      rw [if_neg h2]
      split at h
      · rename_i h3
        rw [if_pos h3]; rfl
      · exfalso
        split at h
        · rename_i t n hf
          rcases fits_code hf with rfl | rfl | rfl | rfl <;> simp at h
        · simp at h
theorem fdo_code : ∀ (ws : List WriteD) (s : DiskS) {op : Int} {nm : List UInt8} {n : Int}, (fdoF s ws).2 = some (op, nm, n) → codeOk n ∧ ∃ w ∈ ws, w.op = op ∧ w.file = nm
  | [], s, op, nm, n, h => by simp [fdoF] at h
  | w :: ws, s, op, nm, n, h => by
    simp only [fdoF] at h
    split at h
    · obtain ⟨h1, v, hv, h2⟩ := fdo_code ws _ h
      exact ⟨h1, v, List.mem_cons_of_mem _ hv, h2⟩
    · rename_i h0
      simp only [Option.some.injEq, Prod.mk.injEq] at h
      obtain ⟨rfl, rfl, rfl⟩ := h
      exact ⟨(do_code s w).resolve_left h0, w, List.mem_cons_self .., rfl, rfl⟩
def ftup : Option (Int × List UInt8 × Int) → List D
  | none => [i8 0, str [], int 0]
  | some (op, nm, e) => [i8 op, str nm, int e]
theorem rdo_fun (s : DiskS) (ws : List WriteD) (hp : okPath s ws) (hl : ws.length ≤ 1000000) (hw : ∀ w ∈ ws, w.file.length ≤ 1000000 ∧ w.b.length ≤ 1000000) :
    Fun Tryz.prog 17 [s.d, wrsD ws] (.tup ((fdoF s ws).1.d :: ftup (fdoF s ws).2)) := by
  (refine Fun.of_body Tryz.func17 rfl rfl Tryz.ntmps17 Tryz.results17 (by simp) ?_)
  (repeat (first | apply Wp.skip | apply Wp.exit | apply Wp.ret | apply Wp.block | apply Wp.label | ((first | refine Wp.sreg (fun K hK => ?_) | refine Wp.reg (fun K hK => ?_) | refine Wp.sdrw mixed (fun K hK => ?_) | refine Wp.drw mixed (fun K hK => ?_) | refine Wp.condG (fun K hK hF => ?_)); (repeat (revert hK; intro hK; simp (maxSteps := 2000000) (disch := omega) only [RUN, TY, RUNB, aop, ofV, SV.ofD, Value.oneCell', Nat.reduceBEq, Nat.reduceAdd, Nat.reduceLT]; (first | (refine hK _ ?_; clear hK K) | (refine ⟨by kernel_rfl, hK _ ?_⟩; clear hK K) | (refine hK ?_; clear hK hF K) | (refine hF ?_; clear hK hF K) | refine bcf (by assumption) ?_ | refine bca (by assumption) ?_))); fail_if_success (revert hK; intro hK)) | apply Wp.seq))
  refine Wp.loop (fun q : Nat × DiskS => ⟨ofL [(1, .c (.d (wrsD ws))), (2, .c (.own 0 0)), (4, .c (.own 1 0)), (8, vi .i64 q.1)], ofH [(0, .cells [.d (.lst 3 (q.2.fs.map FileD.dv)), .d (int q.2.cap), .d (int q.2.left), .d (boo q.2.down)]), (1, .cells [.d nilV, .d (int 0), .d (int 0), .d (boo false)])], 2, 50, 0⟩) (fun q => q.1 ≤ ws.length ∧ okPath q.2 (ws.drop q.1) ∧ fdoF s ws = fdoF q.2 (ws.drop q.1)) (fun q => ws.length - q.1) (0, s) ⟨Nat.zero_le _, hp, rfl⟩ ?_ ?_
  · refine Weak.keep rfl rfl ?_
    simp (maxSteps := 2000000) (disch := omega) only [RUN, RUNB, SV.ofD, Nat.reduceBEq]
  rintro ⟨i, u⟩ ⟨hi, hok, heq⟩
  simp only at hi hok heq
  rw [heq]
  clear heq
  (repeat (first | apply Wp.skip | apply Wp.exit | apply Wp.ret | apply Wp.block | apply Wp.label | ((first | refine Wp.sreg (fun K hK => ?_) | refine Wp.reg (fun K hK => ?_) | refine Wp.sdrw mixed (fun K hK => ?_) | refine Wp.drw mixed (fun K hK => ?_) | refine Wp.condG (fun K hK hF => ?_)); (repeat (revert hK; intro hK; simp (maxSteps := 2000000) (disch := omega) only [RUN, TY, RUNB, aop, aLen, aBu, CV.lenOf, Nat.reduceBEq, Nat.reduceAdd, Nat.reduceLT]; (first | (refine hK _ ?_; clear hK K) | (refine ⟨by kernel_rfl, hK _ ?_⟩; clear hK K) | (refine hK ?_; clear hK hF K) | (refine hF ?_; clear hK hF K) | refine bcf (by assumption) ?_ | refine bca (by assumption) ?_))); fail_if_success (revert hK; intro hK)) | apply Wp.seq))
  refine Wp.cond (by simp (maxSteps := 2000000) (disch := omega) only [RUN, RUNB]; rfl) (fun h => ?_) (fun h => ?_)
  · have hlt : i < ws.length := by simpa using h
    have hg : ws[i]? = some ws[i] := List.getElem?_eq_getElem hlt
    have hww := hw _ (List.getElem_mem hlt)
    rw [List.drop_eq_getElem_cons hlt] at hok ⊢
    generalize ws[i] = w at *
    obtain ⟨⟨hsm, hle⟩, hnx⟩ := hok
    have c1 := refDo_fun u w hsm hww.1 hww.2 hle
    have hdn := @do_down u w
    simp only [fdoF]
    obtain ⟨t, e, ht⟩ : ∃ t e, doF u w = (t, e) := ⟨_, _, rfl⟩
    rw [ht] at c1 hnx hdn ⊢
    simp only at c1 hnx hdn ⊢
    obtain ⟨op, nm, bb, n⟩ := w
    simp only [WriteD.dv] at c1 hg
    by_cases he : e = 0
    · subst he
      (repeat (first | apply Wp.skip | apply Wp.exit | apply Wp.ret | apply Wp.block | apply Wp.label | ((first | refine Wp.sreg (fun K hK => ?_) | refine Wp.reg (fun K hK => ?_) | refine Wp.sdrw mixed (fun K hK => ?_) | refine Wp.drw mixed (fun K hK => ?_) | refine Wp.condG (fun K hK hF => ?_)); (repeat (revert hK; intro hK; simp (maxSteps := 2000000) (disch := omega) only [RUN, TY, RUNB, aop, ofV, SV.ofD, aLd, aSt, aXt, CV.exact, CV.lstOf, Value.oneCell', CV.toD0, oWn, Nat.reduceBEq, Nat.reduceAdd, Nat.reduceLT, Int.reduceBEq, Int.reduceBNe, hg, WriteD.dv]; (first | (refine hK _ ?_; clear hK K) | (refine ⟨by kernel_rfl, hK _ ?_⟩; clear hK K) | (refine hK ?_; clear hK hF K) | (refine hF ?_; clear hK hF K) | refine bcf (by assumption) ?_ | refine bca (by assumption) ?_))); fail_if_success (revert hK; intro hK)) | apply Wp.seq))
      refine ⟨(i + 1, t), ⟨hlt, hnx rfl, by simp⟩, (by simp only; omega), Weak.keep rfl rfl ?_⟩
      simp (maxSteps := 2000000) (disch := omega) only [RUN, RUNB, Nat.reduceBEq]
    · have e1 : (e != 0) = true := by simpa using he
      rw [if_neg he]
      by_cases h30 : e = 30
      · subst h30
        have hd := hdn rfl
        have hd2 : (if (30 : Int) = 30 ∧ t.down = true then t else u) = ⟨u.fs, u.cap, u.left, true⟩ := by
          rw [← hd]; simp
        rw [hd2]
        clear hd hd2 hdn
        obtain ⟨tf, tc, tl, td⟩ := t
        obtain ⟨uf, uc, ul, ud⟩ := u
        cases ud <;>
        · (repeat (first | apply Wp.skip | apply Wp.exit | apply Wp.ret | apply Wp.block | apply Wp.label | ((first | refine Wp.sreg (fun K hK => ?_) | refine Wp.reg (fun K hK => ?_) | refine Wp.sdrw mixed (fun K hK => ?_) | refine Wp.drw mixed (fun K hK => ?_) | refine Wp.condG (fun K hK hF => ?_)); (repeat (revert hK; intro hK; simp (maxSteps := 2000000) (disch := omega) only [RUN, TY, RUNB, aop, ofV, SV.ofD, aLd, aSt, aFd, aXt, CV.exact, CV.lstOf, CV.one, D.one, Value.oneCell', CV.toD0, oWn, Nat.reduceBEq, Nat.reduceAdd, Nat.reduceLT, Nat.reduceLeDiff, hg, WriteD.dv, e1]; (first | (refine hK _ ?_; clear hK K) | (refine ⟨by kernel_rfl, hK _ ?_⟩; clear hK K) | (refine hK ?_; clear hK hF K) | (refine hF ?_; clear hK hF K) | refine bcf (by assumption) ?_ | refine bca (by assumption) ?_))); fail_if_success (revert hK; intro hK)) | apply Wp.seq))
          simp (maxSteps := 2000000) (disch := omega) only [RUN, TY, RUNB, aLd, CV.toD0, rD0, bQ0, tQ0, kQ0, Nat.reduceBEq, Nat.reduceAdd, ftup]
      · have e2 : (e == 30) = false := by simpa using h30
        rw [if_neg (fun q => h30 q.1)]
        (repeat (first | apply Wp.skip | apply Wp.exit | apply Wp.ret | apply Wp.block | apply Wp.label | ((first | refine Wp.sreg (fun K hK => ?_) | refine Wp.reg (fun K hK => ?_) | refine Wp.sdrw mixed (fun K hK => ?_) | refine Wp.drw mixed (fun K hK => ?_) | refine Wp.condG (fun K hK hF => ?_)); (repeat (revert hK; intro hK; simp (maxSteps := 2000000) (disch := omega) only [RUN, TY, RUNB, aop, ofV, SV.ofD, aLd, aSt, aFd, aXt, CV.exact, CV.lstOf, Value.oneCell', CV.toD0, oWn, Nat.reduceBEq, Nat.reduceAdd, Nat.reduceLT, Nat.reduceLeDiff, hg, WriteD.dv, e1, e2]; (first | (refine hK _ ?_; clear hK K) | (refine ⟨by kernel_rfl, hK _ ?_⟩; clear hK K) | (refine hK ?_; clear hK hF K) | (refine hF ?_; clear hK hF K) | refine bcf (by assumption) ?_ | refine bca (by assumption) ?_))); fail_if_success (revert hK; intro hK)) | apply Wp.seq))
        simp (maxSteps := 2000000) (disch := omega) only [RUN, TY, RUNB, aLd, CV.toD0, rD0, bQ0, tQ0, kQ0, Nat.reduceBEq, Nat.reduceAdd, ftup]
  · have hil : i = ws.length := by simp only [decide_eq_false_iff_not] at h; omega
    subst hil
    rw [List.drop_length]
    (repeat (first | apply Wp.skip | apply Wp.exit | apply Wp.ret | apply Wp.block | apply Wp.label | ((first | refine Wp.sreg (fun K hK => ?_) | refine Wp.reg (fun K hK => ?_) | refine Wp.sdrw mixed (fun K hK => ?_) | refine Wp.drw mixed (fun K hK => ?_) | refine Wp.condG (fun K hK hF => ?_)); (repeat (revert hK; intro hK; simp (maxSteps := 2000000) (disch := omega) only [RUN, TY, RUNB, aop, ofV, aLd, aSt, Nat.reduceBEq, Nat.reduceAdd, Nat.reduceLT]; (first | (refine hK _ ?_; clear hK K) | (refine ⟨by kernel_rfl, hK _ ?_⟩; clear hK K) | (refine hK ?_; clear hK hF K) | (refine hF ?_; clear hK hF K) | refine bcf (by assumption) ?_ | refine bca (by assumption) ?_))); fail_if_success (revert hK; intro hK)) | apply Wp.seq))
    simp (maxSteps := 2000000) (disch := omega) only [RUN, TY, RUNB, aLd, CV.toD0, rD0, bQ0, Nat.reduceBEq, Nat.reduceAdd, fdoF, ftup]
theorem rput_fun (s : DiskS) (nm : List UInt8) (ls : List (List UInt8)) (hnm : nm.length ≤ 1000000) (hn : ls.length ≤ 100000) (hl : ∀ l ∈ ls, l.length ≤ 1000000) (hb : (bytesF ls).length ≤ 1000000)
    (hp : okPath s (putW nm (bytesF ls))) : Fun Tryz.prog 22 [s.d, str nm, strsD ls] (.tup ((fputF s nm ls).1.d :: ftup (fputF s nm ls).2)) := by
  have c1 := refB_fun ls hn hl
  have c2 := rdo_fun s (putW nm (bytesF ls)) hp (by simp [putW]) (by
    intro w hw
    simp only [putW, List.mem_cons, List.not_mem_nil, or_false] at hw
    rcases hw with rfl | rfl
    · exact ⟨hnm, hb⟩
    · exact ⟨hnm, by simp⟩)
  obtain ⟨b, hbb⟩ : ∃ b, b = bytesF ls := ⟨_, rfl⟩
  unfold fputF
  rw [← hbb] at c1 c2 ⊢
  clear hbb hp hb
  have bad : ∀ x : DiskS × Option (Int × List UInt8 × Int), (¬ (bytesE ls = 0 ∧ ls ≠ [])) → (if bytesE ls = 0 ∧ ls ≠ [] then x else (s, some (0, nm, 2))) = (s, some (0, nm, 2)) := fun x h => if_neg h
  by_cases he : bytesE ls = 0
  · rw [he] at c1
    cases ls with
    | nil =>
      rw [bad _ (fun q => q.2 rfl)]
      (refine Fun.of_body Tryz.func22 rfl rfl Tryz.ntmps22 Tryz.results22 (by simp) ?_)
      (repeat (first | apply Wp.skip | apply Wp.exit | apply Wp.ret | apply Wp.block | apply Wp.label | ((first | refine Wp.sreg (fun K hK => ?_) | refine Wp.reg (fun K hK => ?_) | refine Wp.sdrw mixed (fun K hK => ?_) | refine Wp.drw mixed (fun K hK => ?_) | refine Wp.condG (fun K hK hF => ?_)); (repeat (revert hK; intro hK; simp (maxSteps := 2000000) (disch := omega) only [RUN, TY, RUNB, aop, ofV, SV.ofD, aLd, aSt, aLen, aXt, aBu, CV.exact, CV.lenOf, Value.oneCell', oWn, Nat.reduceBEq, Nat.reduceAdd, Nat.reduceLT, Int.reduceBNe]; (first | (refine hK _ ?_; clear hK K) | (refine ⟨by kernel_rfl, hK _ ?_⟩; clear hK K) | (refine hK ?_; clear hK hF K) | (refine hF ?_; clear hK hF K) | refine bcf (by assumption) ?_ | refine bca (by assumption) ?_))); fail_if_success (revert hK; intro hK)) | apply Wp.seq))
      simp (maxSteps := 2000000) (disch := omega) only [RUN, TY, RUNB, aLd, CV.toD0, rD0, bQ0, tQ0, Nat.reduceBEq, Nat.reduceAdd, ftup]
    | cons x r =>
      rw [if_pos ⟨he, by simp⟩]
      obtain ⟨t, e, ht⟩ : ∃ t e, fdoF s (putW nm b) = (t, e) := ⟨_, _, rfl⟩
      rw [ht] at c2 ⊢
      simp only [putW, WriteD.dv, List.map_cons, List.map_nil] at c2
      have e1 : ((((x :: r).length : Nat) : Int) == 0) = false := by simp; omega
      rcases e with _ | ⟨op, nm', n⟩ <;> simp only [ftup] at c2 ⊢ <;>
      · (refine Fun.of_body Tryz.func22 rfl rfl Tryz.ntmps22 Tryz.results22 (by simp) ?_)
        (repeat (first | apply Wp.skip | apply Wp.exit | apply Wp.ret | apply Wp.block | apply Wp.label | ((first | refine Wp.sreg (fun K hK => ?_) | refine Wp.reg (fun K hK => ?_) | refine Wp.sdrw mixed (fun K hK => ?_) | refine Wp.drw mixed (fun K hK => ?_) | refine Wp.condG (fun K hK hF => ?_)); (repeat (revert hK; intro hK; simp (maxSteps := 2000000) (disch := omega) only [RUN, TY, RUNB, aop, ofV, SV.ofD, aLd, aSt, aLen, aXt, aBu, CV.exact, CV.lenOf, CV.one, D.one, Value.oneCell', CV.toD0, oWn, reduceCtorEq, Nat.reduceBEq, Nat.reduceAdd, Nat.reduceMul, Nat.reduceLT, Nat.reduceLeDiff, Int.reduceBNe]; (first | (refine hK _ ?_; clear hK K) | (refine ⟨by kernel_rfl, hK _ ?_⟩; clear hK K) | (refine hK ?_; clear hK hF K) | (refine hF ?_; clear hK hF K) | refine bcf (by assumption) ?_ | refine bca (by assumption) ?_))); fail_if_success (revert hK; intro hK)) | apply Wp.seq))
        simp (maxSteps := 2000000) (disch := omega) only [RUN, TY, RUNB, aLd, CV.toD0, rD0, bQ0, Nat.reduceBEq, Nat.reduceAdd]
  · rw [bad _ (fun q => he q.1)]
    have e1 : (bytesE ls != 0) = true := by simpa using he
    (refine Fun.of_body Tryz.func22 rfl rfl Tryz.ntmps22 Tryz.results22 (by simp) ?_)
    (repeat (first | apply Wp.skip | apply Wp.exit | apply Wp.ret | apply Wp.block | apply Wp.label | ((first | refine Wp.sreg (fun K hK => ?_) | refine Wp.reg (fun K hK => ?_) | refine Wp.sdrw mixed (fun K hK => ?_) | refine Wp.drw mixed (fun K hK => ?_) | refine Wp.condG (fun K hK hF => ?_)); (repeat (revert hK; intro hK; simp (maxSteps := 2000000) (disch := omega) only [RUN, TY, RUNB, aop, ofV, SV.ofD, aLd, aSt, aXt, CV.exact, Value.oneCell', oWn, Nat.reduceBEq, Nat.reduceAdd, Nat.reduceLT, e1]; (first | (refine hK _ ?_; clear hK K) | (refine ⟨by kernel_rfl, hK _ ?_⟩; clear hK K) | (refine hK ?_; clear hK hF K) | (refine hF ?_; clear hK hF K) | refine bcf (by assumption) ?_ | refine bca (by assumption) ?_))); fail_if_success (revert hK; intro hK)) | apply Wp.seq))
    simp (maxSteps := 2000000) (disch := omega) only [RUN, TY, RUNB, aLd, CV.toD0, rD0, bQ0, tQ0, Nat.reduceBEq, Nat.reduceAdd, ftup]
theorem rmend_fun (s : DiskS) (nm : List UInt8) (hs : s.fs.length ≤ 100000) (hnm : 0 < tornF (getB s.fs nm) → nm.length ≤ 1000000) (hb : ∀ f ∈ s.fs, f.b.length ≤ 1000000) (hp : okPath s (mendW s.fs nm)) :
    Fun Tryz.prog 24 [s.d, str nm] (.tup ((fmendF s nm).1.d :: ftup (fmendF s nm).2)) := by
  have c1 := refLoads_fun s.fs s.cap s.left s.down nm (by omega) hb
  have c2 := refGet_fun s.fs s.cap s.left s.down nm (by omega)
  have ht := torn_le (getB s.fs nm)
  have c3 := rdo_fun s (mendW s.fs nm) hp (by unfold mendW; split <;> simp) (by
    intro w hw
    unfold mendW at hw
    split at hw
    · rename_i h0
      simp only [List.mem_cons, List.not_mem_nil, or_false] at hw
      subst hw; exact ⟨hnm h0, by simp⟩
    · cases hw)
  unfold fmendF
  have hmw : mendW s.fs nm = if 0 < tornF (getB s.fs nm) then [⟨3, nm, [], ((getB s.fs nm).length : Int) - tornF (getB s.fs nm)⟩] else [] := rfl
  by_cases h0 : 0 < tornF (getB s.fs nm)
  · rw [if_pos h0] at hmw
    rw [hmw] at c3 ⊢
    have d1 : (tornF (getB s.fs nm) == 0) = false := by simp; omega
    have hgv : ∃ nm' su, getV s.fs nm = .tup [.agg [str nm', str (getB s.fs nm), int su], boo true] := by
      unfold getV getB
      unfold getB at h0
      split
      · rename_i f hf; exact ⟨f.name, f.sure, by rw [hf]; rfl⟩
      · rename_i hf; rw [hf] at h0; simp only [tornF_nil] at h0; omega
    obtain ⟨nm', su, hgv⟩ := hgv
    rw [hgv] at c2
    have hfb : (getB s.fs nm).length ≤ 1000000 := by
      unfold getB
      split
      · rename_i f hf; exact hb f (List.mem_of_getElem? hf)
      · simp
    generalize getB s.fs nm = fb at *
    generalize tornF fb = tn at *
    obtain ⟨t, e, htt⟩ : ∃ t e, fdoF s [⟨3, nm, [], (fb.length : Int) - tn⟩] = (t, e) := ⟨_, _, rfl⟩
    rw [htt] at c3 ⊢
    simp only [WriteD.dv, List.map_cons, List.map_nil] at c3
    rcases e with _ | ⟨op, nm', n⟩ <;> simp only [ftup] at c3 ⊢ <;>
    · (refine Fun.of_body Tryz.func24 rfl rfl Tryz.ntmps24 Tryz.results24 (by simp) ?_)
      (repeat (first | apply Wp.skip | apply Wp.exit | apply Wp.ret | apply Wp.block | apply Wp.label | ((first | refine Wp.sreg (fun K hK => ?_) | refine Wp.reg (fun K hK => ?_) | refine Wp.sdrw mixed (fun K hK => ?_) | refine Wp.drw mixed (fun K hK => ?_) | refine Wp.condG (fun K hK hF => ?_)); (repeat (revert hK; intro hK; simp (maxSteps := 2000000) (disch := omega) only [RUN, TY, RUNB, aop, ofV, SV.ofD, aLd, aSt, aFd, aLen, aXt, aBu, CV.one, D.one, Value.oneCell', CV.toD0, oWn, reduceCtorEq, Nat.reduceBEq, Nat.reduceAdd, Nat.reduceMul, Nat.reduceLT, Nat.reduceLeDiff, d1]; (first | (refine hK _ ?_; clear hK K) | (refine ⟨by kernel_rfl, hK _ ?_⟩; clear hK K) | (refine hK ?_; clear hK hF K) | (refine hF ?_; clear hK hF K) | refine bcf (by assumption) ?_ | refine bca (by assumption) ?_))); fail_if_success (revert hK; intro hK)) | apply Wp.seq))
      simp (maxSteps := 2000000) (disch := omega) only [RUN, TY, RUNB, aLd, CV.toD0, rD0, bQ0, Nat.reduceBEq, Nat.reduceAdd]
  · rw [if_neg h0] at hmw
    rw [hmw]
    have h1 : tornF (getB s.fs nm) = 0 := by omega
    rw [h1] at c1
    clear c3
    simp only [fdoF, ftup]
    (refine Fun.of_body Tryz.func24 rfl rfl Tryz.ntmps24 Tryz.results24 (by simp) ?_)
    (repeat (first | apply Wp.skip | apply Wp.exit | apply Wp.ret | apply Wp.block | apply Wp.label | ((first | refine Wp.sreg (fun K hK => ?_) | refine Wp.reg (fun K hK => ?_) | refine Wp.sdrw mixed (fun K hK => ?_) | refine Wp.drw mixed (fun K hK => ?_) | refine Wp.condG (fun K hK hF => ?_)); (repeat (revert hK; intro hK; simp (maxSteps := 2000000) (disch := omega) only [RUN, TY, RUNB, aop, ofV, SV.ofD, aLd, aSt, aXt, Value.oneCell', CV.toD0, oWn, Nat.reduceBEq, Nat.reduceAdd, Nat.reduceLT]; (first | (refine hK _ ?_; clear hK K) | (refine ⟨by kernel_rfl, hK _ ?_⟩; clear hK K) | (refine hK ?_; clear hK hF K) | (refine hF ?_; clear hK hF K) | refine bcf (by assumption) ?_ | refine bca (by assumption) ?_))); fail_if_success (revert hK; intro hK)) | apply Wp.seq))
    simp (maxSteps := 2000000) (disch := omega) only [RUN, TY, RUNB, aLd, CV.toD0, rD0, bQ0, tQ0, Nat.reduceBEq, Nat.reduceAdd]
theorem do_zero {s : DiskS} {w : WriteD} (h : (doF s w).2 = 0) : validB (doF s w).1.fs (doF s w).1.cap = true ∧ (doF s w).1.left ≤ s.left := by
  obtain ⟨fs, cap, left, down⟩ := s
  unfold doF at h ⊢
  simp only at h ⊢
  split at h
  · cases h
  · rename_i h1
    rw [if_neg h1]
    split at h
    · cases h
    · rename_i h2
      rw [if_neg h2]
      split at h
      · cases h
      · rename_i h3
        rw [if_neg h3]
        split at h
        · rename_i t n hf
          rcases fits_code hf with rfl | rfl | rfl | rfl <;> simp at h
        · rename_i hf
          simp only [Bool.not_eq_true, Bool.not_eq_false', Bool.and_eq_true] at h1
          refine ⟨do_valid h1.1 h1.2 hf, ?_⟩
          simp only
          split <;> omega
theorem path_ok : ∀ (ws : List WriteD) (s : DiskS), Small s.fs → s.left ≤ 9223372036854775807 → okPath s ws
  | [], _, _, _ => trivial
  | w :: ws, s, hs, hl => ⟨⟨hs, hl⟩, fun h => by
    obtain ⟨h1, h2⟩ := do_zero h
    exact path_ok ws _ (valid_small h1) (Int.le_trans h2 hl)⟩
end Go.Proofs.YtepcpdionlfkhaaGreatDoor
