/- slices.Clone, Grow and Concat at api.File. -/
import Derived.Test.YtepcpdionlfkhaaGreatDoorMacJ
import Derived.Test.YtepcpdionlfkhaaGreatDoorGrow
import Derived.Lib.SliceRun
import Derived.WalkKit
import Derived.WalkSpells
import Derived.WalkLawsBesides
namespace Go.Proofs.YtepcpdionlfkhaaGreatDoor
open Go Go.RowKit
set_option maxHeartbeats 1000000
set_option maxRecDepth 100000
set_option linter.unusedVariables false
set_option linter.unusedSimpArgs false
set_option maxHeartbeats 4000000
theorem clone_fun (fs : List FileD) (hl : fs.length ≤ 100000) : FunA Tryz.prog 44 [.lst 3 (fs.map FileD.dv)] 85 3 (fs.map FileD.dv) := by
  cases fs with
  | nil =>
    refine FunA.of_nil (fun a c => ?_)
    (refine FunA.of_body Tryz.func44 rfl rfl Tryz.ntmps44 Tryz.results44 (by simp) ?_)
    cases a with
    | none =>
      (repeat (first | refine Wp.skip ?_ | refine Wp.exit ?_ | refine Wp.ret ?_ | refine Wp.block ?_ | refine Wp.label ?_ | ((first | (first | refine Wp.sreg (fun K hK => ?_) | refine Wp.reg (fun K hK => ?_) | refine Wp.sdrw mixed (fun K hK => ?_) | refine Wp.drw mixed (fun K hK => ?_)) | refine Wp.condG (fun K hT hF => ?_)); simp (maxSteps := 2000000) (disch := omega) only [RUN, TY, RUNB, aop, ofV, SV.ofD, Nat.reduceBEq, Nat.reduceLT, Option.isNone_none]; (first | (refine hK _ ?_; clear hK K) | (refine ⟨by kernel_rfl, hK _ ?_⟩; clear hK K) | (refine hT ?_; clear hT hF K) | (refine hF ?_; clear hT hF K))) | refine Wp.seq ?_))
      simp (maxSteps := 2000000) (disch := omega) only [RUN, tQ0, reduceCtorEq, bodyQA, retA]
    | some ad =>
      (repeat (first | refine Wp.skip ?_ | refine Wp.exit ?_ | refine Wp.ret ?_ | refine Wp.block ?_ | refine Wp.label ?_ | ((first | (first | refine Wp.sreg (fun K hK => ?_) | refine Wp.reg (fun K hK => ?_) | refine Wp.sdrw mixed (fun K hK => ?_) | refine Wp.drw mixed (fun K hK => ?_)) | refine Wp.condG (fun K hT hF => ?_)); simp (maxSteps := 2000000) (disch := omega) only [RUN, TY, RUNB, aop, ofV, SV.ofD, aBu, CV.lstOf, Value.oneCell', Nat.reduceBEq, Nat.reduceAdd, Nat.reduceMul, Nat.reduceLT, Option.isNone_some]; (first | (refine hK _ ?_; clear hK K) | (refine ⟨by kernel_rfl, hK _ ?_⟩; clear hK K) | (refine hT ?_; clear hT hF K) | (refine hF ?_; clear hT hF K))) | refine Wp.seq ?_))
      simp (maxSteps := 2000000) (disch := omega) only [RUN, bodyQA, retA]
      exact .inl ⟨0, rfl, rfl⟩
  | cons f fs =>
    have hb : (fs.length + 1) * 40 ≤ 140737488355328 := by simp at hl; omega
    (refine FunA.of_body Tryz.func44 rfl rfl Tryz.ntmps44 Tryz.results44 (by simp) ?_)
    (repeat (first | refine Wp.skip ?_ | refine Wp.exit ?_ | refine Wp.ret ?_ | refine Wp.block ?_ | refine Wp.label ?_ | ((first | (first | refine Wp.sreg (fun K hK => ?_) | refine Wp.reg (fun K hK => ?_) | refine Wp.sdrw mixed (fun K hK => ?_) | refine Wp.drw mixed (fun K hK => ?_)) | refine Wp.condG (fun K hT hF => ?_)); simp (maxSteps := 2000000) (disch := omega) only [RUN, TY, RUNB, aop, ofV, SV.ofD, aBu, CV.lstOf, Value.oneCell', Nat.reduceBEq, Nat.reduceAdd, Nat.reduceMul, Nat.reduceLT, hb]; (first | (refine hK _ ?_; clear hK K) | (refine ⟨by kernel_rfl, hK _ ?_⟩; clear hK K) | (refine hT ?_; clear hT hF K) | (refine hF ?_; clear hT hF K))) | refine Wp.seq ?_))
    simp (maxSteps := 2000000) (disch := omega) only [RUN, reduceCtorEq, bodyQA, retA]
    exact .inl ⟨0, rfl, rfl⟩
theorem info_file : (Tryz.prog.info? 85).map (fun i => (i.zero, i.size, i.bytes)) = some (some (.agg #[.string ByteArray.empty, .string ByteArray.empty, .int .i64 0]), 3, 40) := by kernel_rfl
theorem growF (n base : Nat) (w : World) (hn : n ≤ 1000000) (hb : base ≤ w.heap.size) :
    Calls Tryz.prog 143 #[.slice none 0 0, .int .i64 n] w fun e w' => ∃ v, e = .returned v ∧ w'.ownsRow base 85 3 v 0 [] ∧ Below w.heap.size w w' := by
  obtain ⟨i0, hi, hi0, hi1, hi2⟩ := info_parts info_file
  by_cases h0 : n = 0
  · subst h0
    go_enter Tryz.func143, Tryz.ntmps143
    go_wp2_with fail
    go_ret
    exact ⟨_, rfl, World.ownsRow_nil _ _ _ _, Below.refl _ _⟩
  · have hp : 0 < n := by omega
    have hcap := grownCap_ge w n 0 85
    go_enter Tryz.func143, Tryz.ntmps143
    go_wp2_with (at_builtin; refine wpList_append_nil_make rfl _ _ 46 3 rfl 85 i0 _ Tryz.underlying46 Tryz.underlying3 hi hi0 n hp (by omega) hn (by omega) rfl rfl ?_)
    go_ret
    have hown := owns_grown (w := w) (e := 85) (z := .agg #[.string ByteArray.empty, .string ByteArray.empty, .int .i64 0]) (base := base) (n := n) (sz := 3) rfl hb (by unfold maxLen; omega)
    have hbel : Below w.heap.size w (w.drew.alloc (.cells (Builtin.zeroCells (Value.agg #[.string ByteArray.empty, .string ByteArray.empty, .int .i64 0]).cells n ++ Builtin.zeroCells (Value.agg #[.string ByteArray.empty, .string ByteArray.empty, .int .i64 0]).cells (grownCap w n 0 85 - n)) 85)) := (Below.refl _ _).drew.alloc (Nat.le_refl _) _
    exact ⟨.slice (some ⟨w.heap.size,0,none⟩) 0 (grownCap w n 0 85), rfl, hown, hbel⟩
theorem grow_fun (n : Nat) (hn : n ≤ 1000000) : FunA Tryz.prog 143 [.val (.slice none 0 0), int n] 85 3 [] := by
  refine ⟨by kernel_rfl, fun K w vs hB hk hL => ?_⟩
  have hl := hL.1
  match vs, hl with
  | [v, u], _ =>
    have hv := hL.2 0 _ v rfl rfl
    have hu := hL.2 1 _ u rfl rfl
    cases hv; cases hu
    refine (growF n w.heap.size w hn (Nat.le_refl _)).mono ?_
    rintro e w' ⟨v, rfl, hown, hb⟩
    have hkw : KW K w' := fun b o v h => by
      rw [← hk b o v h]; exact hb.cell (p := ⟨b, o, none⟩) (by
        rcases Nat.lt_or_ge b w.heap.size with h' | h'
        · exact h'
        · rw [hk.lt h'] at h; cases h)
    rcases hown.2 with ⟨rfl, _⟩ | ⟨g, cp, cur, rfl, hbg, hg, hnc, hcm, hcs, _⟩
    · exact ⟨_, K, rfl, Ext.refl _ _, hkw, rep_nil _ _, .inl ⟨none, rfl⟩, hb⟩
    · refine ⟨_, K, rfl, Ext.refl _ _, hkw, ?_, .inr ⟨g, cp, cur, rfl, hbg, hg, hcs, Nat.zero_le _, fun o _ => hk.lt hbg⟩, hb⟩
      exact Rep.lst (vs := []) (by simp) (by simp) rfl (by simp) (by simp) (by simp)
def catF (L : List (List FileD)) : List FileD := L.flatten
theorem cat_step (L : List (List FileD)) (k : Nat) (h : k < L.length) : catF (L.take (k + 1)) = catF (L.take k) ++ L[k] := by
  unfold catF; rw [List.take_succ_eq_append_getElem h, List.flatten_append, List.flatten_singleton]
theorem cat_le (L : List (List FileD)) (k : Nat) : (catF (L.take k)).length ≤ (catF L).length := by
  have : catF L = catF (L.take k) ++ catF (L.drop k) := by unfold catF; rw [← List.flatten_append, List.take_append_drop]
  rw [this, List.length_append]; omega
def segsD (L : List (List FileD)) : List (List D) := L.map fun l => [D.lst 3 (l.map FileD.dv)]
theorem concat_fun (L : List (List FileD)) (hL : L.length ≤ 1000) (ht : (catF L).length ≤ 1000000) : FunA Tryz.prog 80 [.lst 1 (segsD L)] 85 3 ((catF L).map FileD.dv) := by
  (refine FunA.of_body Tryz.func80 rfl rfl Tryz.ntmps80 Tryz.results80 (by simp) ?_)
  (repeat (first | refine Wp.skip ?_ | refine Wp.exit ?_ | refine Wp.ret ?_ | refine Wp.block ?_ | refine Wp.label ?_ | ((first | (first | refine Wp.sreg (fun K hK => ?_) | refine Wp.reg (fun K hK => ?_) | refine Wp.sdrw mixed (fun K hK => ?_) | refine Wp.drw mixed (fun K hK => ?_)) | refine Wp.condG (fun K hT hF => ?_)); simp (maxSteps := 2000000) (disch := omega) only [RUN, TY, RUNB, aop, ofV, SV.ofD, aLen, aBu, CV.lenOf, Nat.reduceBEq, Nat.reduceLT, segsD]; (first | (refine hK _ ?_; clear hK K) | (refine ⟨by kernel_rfl, hK _ ?_⟩; clear hK K) | (refine hT ?_; clear hT hF K) | (refine hF ?_; clear hT hF K))) | refine Wp.seq ?_))
  refine Wp.loop (fun k : Nat => ⟨ofL [(0, .c (.d (.lst 1 (segsD L)))), (3, vi .i64 (catF (L.take k)).length), (9, .c (.d (.lst 1 (segsD L)))), (10, vi .i64 L.length), (11, vi .i64 k)], ofH [], 0, 36, 0⟩) (fun k => k ≤ L.length) (fun k => L.length - k) 0 (Nat.zero_le _) ?_ ?_
  · refine Weak.keep rfl rfl ?_
    simp (maxSteps := 2000000) (disch := omega) only [RUN, RUNB, SV.ofD, Nat.reduceBEq, segsD, catF, List.flatten_nil]
  intro k hk
  (repeat (first | refine Wp.skip ?_ | refine Wp.exit ?_ | refine Wp.ret ?_ | refine Wp.block ?_ | refine Wp.label ?_ | ((first | (first | refine Wp.sreg (fun K hK => ?_) | refine Wp.reg (fun K hK => ?_) | refine Wp.sdrw mixed (fun K hK => ?_) | refine Wp.drw mixed (fun K hK => ?_)) | refine Wp.condG (fun K hT hF => ?_)); simp (maxSteps := 2000000) (disch := omega) only [RUN, RUNB, aop, Nat.reduceBEq, Nat.reduceLT]; (first | (refine hK _ ?_; clear hK K) | (refine ⟨by kernel_rfl, hK _ ?_⟩; clear hK K) | (refine hT ?_; clear hT hF K) | (refine hF ?_; clear hT hF K))) | refine Wp.seq ?_))
  refine Wp.cond (by simp (maxSteps := 2000000) (disch := omega) only [RUN, RUNB]; rfl) (fun h => ?_) (fun h => ?_)
  · have hlt : k < L.length := by simpa using h
    have h1 := cat_step L k hlt
    have h2 := cat_le L (k + 1)
    have h3 := cat_le L k
    rw [h1, List.length_append] at h2
    have hneg : decide (((catF (L.take k)).length : Int) + (L[k].length : Int) < 0) = false := by simp; omega
    (repeat (first | refine Wp.skip ?_ | refine Wp.exit ?_ | refine Wp.ret ?_ | refine Wp.block ?_ | refine Wp.label ?_ | ((first | (first | refine Wp.sreg (fun K hK => ?_) | refine Wp.reg (fun K hK => ?_) | refine Wp.sdrw mixed (fun K hK => ?_) | refine Wp.drw mixed (fun K hK => ?_)) | refine Wp.condG (fun K hT hF => ?_)); simp (maxSteps := 2000000) (disch := omega) only [RUN, TY, RUNB, aop, ofV, aLd, aLen, aBu, CV.exact, CV.lstOf, CV.lenOf, Nat.reduceBEq, Nat.reduceLT, List.getElem?_eq_getElem hlt, segsD, hneg]; (first | (refine hK _ ?_; clear hK K) | (refine ⟨by kernel_rfl, hK _ ?_⟩; clear hK K) | (refine hT ?_; clear hT hF K) | (refine hF ?_; clear hT hF K))) | refine Wp.seq ?_))
    refine ⟨k + 1, by omega, by omega, Weak.keep rfl rfl ?_⟩
    simp (maxSteps := 2000000) (disch := omega) only [RUN, RUNB, Nat.reduceBEq, segsD, h1, List.length_append]
  · have hlt : k = L.length := by simp at h; omega
    refine Wp.exit ?_
    rw [hlt, List.take_length]
    ((first | refine Wp.sreg (fun K hK => ?_) | refine Wp.reg (fun K hK => ?_) | (refine Wp.seq ?_; first | refine Wp.sreg (fun K hK => ?_) | refine Wp.reg (fun K hK => ?_))); simp (maxSteps := 2000000) (disch := omega) only [RUN, RUNB, aop, ofV, oWn, Nat.reduceBEq, Nat.reduceLT]; refine bca ((grow_fun (catF L).length ht)) ?_; simp (maxSteps := 2000000) (disch := omega) only [RUN, RUNB, aop, Nat.reduceAdd, Nat.reduceLT]; refine hK _ ?_; clear hK K)
    (repeat (first | refine Wp.skip ?_ | refine Wp.exit ?_ | refine Wp.ret ?_ | refine Wp.block ?_ | refine Wp.label ?_ | ((first | (first | refine Wp.sreg (fun K hK => ?_) | refine Wp.reg (fun K hK => ?_) | refine Wp.sdrw mixed (fun K hK => ?_) | refine Wp.drw mixed (fun K hK => ?_)) | refine Wp.condG (fun K hT hF => ?_)); simp (maxSteps := 2000000) (disch := omega) only [RUN, TY, RUNB, aop, ofV, aLen, aBu, CV.lenOf, Nat.reduceBEq, Nat.reduceAdd, Nat.reduceLT, segsD]; (first | (refine hK _ ?_; clear hK K) | (refine ⟨by kernel_rfl, hK _ ?_⟩; clear hK K) | (refine hT ?_; clear hT hF K) | (refine hF ?_; clear hT hF K))) | refine Wp.seq ?_))
    refine Wp.loop (fun k : Nat => ⟨ofL [(6, .c (.app 0 3 ((catF (L.take k)).map FileD.dv))), (25, .c (.d (.lst 1 (segsD L)))), (26, vi .i64 L.length), (27, vi .i64 k)], ofH [(0, .row 85 3 (catF (L.take k)).length)], 1, 36, 0⟩) (fun k => k ≤ L.length) (fun k => L.length - k) 0 (Nat.zero_le _) ?_ ?_
    · refine Weak.keep rfl rfl ?_
      simp (maxSteps := 2000000) (disch := omega) only [RUN, RUNB, Nat.reduceBEq, segsD, catF, List.flatten_nil]
    intro k hk
    (repeat (first | refine Wp.skip ?_ | refine Wp.exit ?_ | refine Wp.ret ?_ | refine Wp.block ?_ | refine Wp.label ?_ | ((first | (first | refine Wp.sreg (fun K hK => ?_) | refine Wp.reg (fun K hK => ?_) | refine Wp.sdrw mixed (fun K hK => ?_) | refine Wp.drw mixed (fun K hK => ?_)) | refine Wp.condG (fun K hT hF => ?_)); simp (maxSteps := 2000000) (disch := omega) only [RUN, RUNB, aop, Nat.reduceBEq, Nat.reduceAdd, Nat.reduceLT]; (first | (refine hK _ ?_; clear hK K) | (refine ⟨by kernel_rfl, hK _ ?_⟩; clear hK K) | (refine hT ?_; clear hT hF K) | (refine hF ?_; clear hT hF K))) | refine Wp.seq ?_))
    refine Wp.cond (by simp (maxSteps := 2000000) (disch := omega) only [RUN, RUNB]; rfl) (fun h => ?_) (fun h => ?_)
    · have hlt : k < L.length := by simpa using h
      have h1 := cat_step L k hlt
      have h2 := cat_le L (k + 1)
      rw [h1, List.length_append] at h2
      have hb : ((catF (L.take k)).length + L[k].length) * 40 ≤ 140737488355328 := by omega
      (repeat (first | refine Wp.skip ?_ | refine Wp.exit ?_ | refine Wp.ret ?_ | refine Wp.block ?_ | refine Wp.label ?_ | ((first | (first | refine Wp.sreg (fun K hK => ?_) | refine Wp.reg (fun K hK => ?_) | refine Wp.sdrw mixed (fun K hK => ?_) | refine Wp.drw mixed (fun K hK => ?_)) | refine Wp.condG (fun K hT hF => ?_)); simp (maxSteps := 2000000) (disch := omega) only [RUN, TY, RUNB, aop, ofV, aLd, aBu, CV.exact, CV.lstOf, Nat.reduceBEq, Nat.reduceAdd, Nat.reduceLT, List.getElem?_eq_getElem hlt, segsD, hb]; (first | (refine hK _ ?_; clear hK K) | (refine ⟨by kernel_rfl, hK _ ?_⟩; clear hK K) | (refine hT ?_; clear hT hF K) | (refine hF ?_; clear hT hF K))) | refine Wp.seq ?_))
      refine ⟨k + 1, by omega, by omega, Weak.keep rfl rfl ?_⟩
      simp (maxSteps := 2000000) (disch := omega) only [RUN, RUNB, Nat.reduceBEq, segsD, h1, List.length_append, List.map_append]
    · have hlt : k = L.length := by simp at h; omega
      (repeat (first | refine Wp.skip ?_ | refine Wp.exit ?_ | refine Wp.ret ?_ | refine Wp.block ?_ | refine Wp.label ?_ | ((first | (first | refine Wp.sreg (fun K hK => ?_) | refine Wp.reg (fun K hK => ?_) | refine Wp.sdrw mixed (fun K hK => ?_) | refine Wp.drw mixed (fun K hK => ?_)) | refine Wp.condG (fun K hT hF => ?_)); simp (maxSteps := 2000000) (disch := omega) only [RUN, RUNB, aop, Nat.reduceBEq, Nat.reduceAdd, Nat.reduceLT]; (first | (refine hK _ ?_; clear hK K) | (refine ⟨by kernel_rfl, hK _ ?_⟩; clear hK K) | (refine hT ?_; clear hT hF K) | (refine hF ?_; clear hT hF K))) | refine Wp.seq ?_))
      rw [hlt, List.take_length]
      simp (maxSteps := 2000000) (disch := omega) only [RUN, bodyQA, retA]
      exact .inl ⟨0, rfl, rfl⟩
end Go.Proofs.YtepcpdionlfkhaaGreatDoor
