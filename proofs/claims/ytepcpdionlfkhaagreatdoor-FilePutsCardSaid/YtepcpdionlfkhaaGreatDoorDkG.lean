/- Disks: Do. -/
import Derived.Test.YtepcpdionlfkhaaGreatDoorDkE2
import Derived.Test.YtepcpdionlfkhaaGreatDoorDkF
namespace Go.Proofs.YtepcpdionlfkhaaGreatDoor
open Go Go.RowKit
set_option maxHeartbeats 1000000
set_option maxRecDepth 100000
set_option linter.unusedVariables false
set_option linter.unusedSimpArgs false
set_option maxHeartbeats 8000000
structure DiskS where
  fs : List FileD
  cap : Int
  left : Int
  down : Bool
abbrev DiskS.d (s : DiskS) : D := diskD s.fs s.cap s.left s.down
theorem Fun.weaken {P : Program} {f : FuncId} {args : List D} {r r' : D} (h : Fun P f args r) (hr : ∀ K v, Rep K r v → Rep K r' v) : Fun P f args r' :=
  ⟨h.1, fun K w vs hB hk hL => (h.2 K w vs hB hk hL).mono (fun e w' ⟨v, K', h1, h2, h3, h4, h5⟩ => ⟨v, K', h1, h2, h3, hr K' v h4, h5⟩)⟩
theorem Rep.nilL {K : Know} {v : Value} (h : Rep K nilV v) (s : Nat) : Rep K (.lst s []) v := by cases h; exact rep_nil _ _
theorem Rep.repl {K : Know} {cs cs' : List D} {v : Value} (h : Rep K (.agg cs) v) (hl : cs'.length = cs.length) (hc : ∀ (j : Nat) x y, cs[j]? = some x → cs'[j]? = some y → ∀ v, Rep K x v → Rep K y v) : Rep K (.agg cs') v := by
  cases h with
  | agg h1 h2 h3 =>
    refine .agg (hl.trans h1) (fun j y v hy hv => ?_) h3
    have hlt : j < cs.length := by have := (List.getElem?_eq_some_iff.1 hy).1; omega
    exact hc j cs[j] y (List.getElem?_eq_getElem hlt) hy v (h2 j _ v (List.getElem?_eq_getElem hlt) hv)
theorem Rep.replT {K : Know} {cs cs' : List D} {v : Value} (h : Rep K (.tup cs) v) (hl : cs'.length = cs.length) (hc : ∀ (j : Nat) x y, cs[j]? = some x → cs'[j]? = some y → ∀ v, Rep K x v → Rep K y v) : Rep K (.tup cs') v := by
  cases h with
  | tup h1 h2 =>
    refine .tup (hl.trans h1) (fun j y v hy hv => ?_)
    have hlt : j < cs.length := by have := (List.getElem?_eq_some_iff.1 hy).1; omega
    exact hc j cs[j] y (List.getElem?_eq_getElem hlt) hy v (h2 j _ v (List.getElem?_eq_getElem hlt) hv)
theorem zeroDisk {K : Know} {a b c e : D} {v : Value} (h : Rep K (.tup [.agg [nilV, a, b, c], e]) v) : Rep K (.tup [.agg [.lst 3 [], a, b, c], e]) v := by
  refine h.replT rfl (fun j x y hx hy v hv => ?_)
  match j, hx, hy with
  | 0, hx, hy =>
    simp at hx hy; subst hx hy
    refine hv.repl rfl (fun j x y hx hy v hv => ?_)
    match j, hx, hy with
    | 0, hx, hy => simp at hx hy; subst hx hy; exact hv.nilL 3
    | 1, hx, hy => simp at hx hy; subst hx hy; exact hv
    | 2, hx, hy => simp at hx hy; subst hx hy; exact hv
    | 3, hx, hy => simp at hx hy; subst hx hy; exact hv
  | 1, hx, hy => simp at hx hy; subst hx hy; exact hv
def findAt (fs : List FileD) (nm : List UInt8) : Nat := fs.findIdx (fun f => !Op.bytesLess f.name nm)
def isAt (fs : List FileD) (nm : List UInt8) : Bool := match fs[findAt fs nm]? with
  | some f => f.name == nm
  | none => false
def fileAt (fs : List FileD) (nm : List UInt8) : FileD := match fs[findAt fs nm]? with
  | some f => if f.name == nm then f else ⟨nm, [], 0⟩
  | none => ⟨nm, [], 0⟩
def behAt (fs : List FileD) (nm : List UInt8) : Nat := findAt fs nm + if isAt fs nm then 1 else 0
def withF (fs : List FileD) (nm : List UInt8) (f : FileD) : List FileD := fs.take (findAt fs nm) ++ (if f.b == [] then [] else [f]) ++ fs.drop (behAt fs nm)
def doF (s : DiskS) (w : WriteD) : DiskS × Int :=
  if !(validB s.fs s.cap && opB w) then (⟨[], 0, 0, false⟩, 2) else if s.down then (⟨[], 0, 0, false⟩, 30) else if s.left == 0 then (⟨s.fs, s.cap, s.left, true⟩, 30)
  else match fitsO s.fs s.cap w (fileAt s.fs w.file) (isAt s.fs w.file) with
    | some (_, n) => (⟨[], 0, 0, false⟩, n)
    | none => (⟨withF s.fs w.file (afterF (fileAt s.fs w.file) w), s.cap, if decide (0 < s.left) then s.left - 1 else s.left, false⟩, 0)
theorem do1_fun (f : FileD) (w : WriteD) : Fun Tryz.prog 76 [.agg f.dv, .ptr w.dv 0] (boo (!Op.bytesLess f.name w.file)) := by
  (refine Fun.of_body Tryz.func76 rfl rfl Tryz.ntmps76 Tryz.results76 (by simp) ?_)
  (repeat (first | refine Wp.skip ?_ | refine Wp.exit ?_ | refine Wp.ret ?_ | refine Wp.block ?_ | refine Wp.label ?_ | ((first | (first | refine Wp.sreg (fun K hK => ?_) | refine Wp.reg (fun K hK => ?_) | refine Wp.sdrw mixed (fun K hK => ?_) | refine Wp.drw mixed (fun K hK => ?_)) | refine Wp.condG (fun K hT hF => ?_)); simp (maxSteps := 2000000) (disch := omega) only [RUN, TY, RUNB, aop, ofV, SV.ofD, aLd, aFd, Nat.reduceBEq, Nat.reduceAdd, Nat.reduceLT, Nat.reduceLeDiff, FileD.dv, WriteD.dv]; (first | (refine hK _ ?_; clear hK K) | (refine ⟨by kernel_rfl, hK _ ?_⟩; clear hK K) | (refine hT ?_; clear hT hF K) | (refine hF ?_; clear hT hF K))) | refine Wp.seq ?_))
  simp (maxSteps := 2000000) (disch := omega) only [RUN, RUNB, rD0, bQ0]
abbrev diskC (s : DiskS) : HE := .cells [.d (.lst 3 (s.fs.map FileD.dv)), .d (int s.cap), .d (int s.left), .d (boo s.down)]
/-- Behind the first tests. -/
abbrev doS1 (s : DiskS) (w : WriteD) : St := ⟨ofL [(2, .c (.own 0 0)), (3, .c (.own 1 0)), (4, .c (.own 2 0)), (5, vi .i64 0)], ofH [(0, diskC s), (1, .froz w.dv), (2, .cells [.d nilV, .d (int 0), .d (int 0), .d (boo false)])], 3, 104, 0⟩
abbrev doS15 (s : DiskS) (w : WriteD) : St := ⟨ofL [(2, .c (.own 0 0)), (3, .c (.own 1 0)), (4, .c (.own 2 0)), (5, vi .i64 0), (6, vi .i64 (findAt s.fs w.file)), (7, .c (.own 3 0)), (8, vi .i64 (findAt s.fs w.file)), (9, vb (isAt s.fs w.file))],
  ofH [(0, diskC s), (1, .froz w.dv), (2, .cells [.d nilV, .d (int 0), .d (int 0), .d (boo false)]), (3, .cells [.d (str w.file), .d (str []), .d (int 0)])], 4, 104, 0⟩
theorem fits_3 {fs : List FileD} {cap : Int} {w : WriteD} {f : FileD} {is : Bool} (ho : opB w = true) (h : fitsO fs cap w f is = none) (h3 : w.op = 3) : 0 ≤ w.n ∧ w.n ≤ f.b.length := by
  have hl : late w = true := by simp [late, h3]
  unfold fitsO at h
  rw [if_pos hl] at h
  split at h
  · cases h
  · split at h
    · cases h
    · refine ⟨?_, by omega⟩
      simp only [opB, h3, Bool.and_eq_true, Bool.or_eq_true, decide_eq_true_eq] at ho
      simp at ho
      exact ho.2.2
abbrev doS2 (s : DiskS) (w : WriteD) : St := ⟨ofL [(2, .c (.own 0 0)), (3, .c (.own 1 0)), (4, .c (.own 2 0)), (5, vi .i64 0), (6, vi .i64 (findAt s.fs w.file)), (7, .c (.own 3 0)), (8, vi .i64 (behAt s.fs w.file)), (9, vb (isAt s.fs w.file))],
  ofH [(0, diskC s), (1, .froz w.dv), (2, .cells [.d nilV, .d (int 0), .d (int 0), .d (boo false)]), (3, .cells [.d (str (fileAt s.fs w.file).name), .d (str (fileAt s.fs w.file).b), .d (int (fileAt s.fs w.file).sure)])], 4, 104, 0⟩
theorem findAt_le (fs : List FileD) (nm : List UInt8) : findAt fs nm ≤ fs.length := List.findIdx_le_length
theorem fileAt_small (fs : List FileD) (nm : List UInt8) (hs : Small fs) : (fileAt fs nm).b.length ≤ 1000000 := by
  unfold fileAt
  split
  · rename_i f hf
    split
    · exact (hs.2 f (List.mem_of_getElem? hf)).2
    · simp
  · simp
theorem isAt_lt {fs : List FileD} {nm : List UInt8} (h : isAt fs nm = true) : ∃ hlt : findAt fs nm < fs.length, fs[findAt fs nm].name == nm ∧ fileAt fs nm = fs[findAt fs nm] := by
  unfold isAt at h
  split at h
  · rename_i f hf
    obtain ⟨hlt, he⟩ := List.getElem?_eq_some_iff.1 hf
    refine ⟨hlt, by rw [he]; exact h, ?_⟩
    unfold fileAt; rw [hf]; simp only [h, if_true, he]
  · cases h
theorem isAt_no {fs : List FileD} {nm : List UInt8} (h : isAt fs nm = false) : fileAt fs nm = ⟨nm, [], 0⟩ := by
  unfold isAt at h
  unfold fileAt
  split
  · rename_i f hf; rw [hf] at h; simp only at h; rw [h]; rfl
  · rfl
def nowF (f : FileD) : List FileD := if f.b == [] then [] else [f]
abbrev doS4 (s : DiskS) (w : WriteD) (f : FileD) : St := ⟨ofL [(2, .c (.own 0 0)), (3, .c (.own 1 0)), (4, .c (.own 2 0)), (6, vi .i64 (findAt s.fs w.file)), (8, vi .i64 (behAt s.fs w.file)), (11, .c (.d (.lst 3 ((nowF f).map FileD.dv))))],
  ofH [(0, diskC s), (1, .froz w.dv), (2, .cells [.d nilV, .d (int 0), .d (int 0), .d (boo false)])], 4, 104, 0⟩
theorem do_on (fs : List FileD) (cap left : Int) (w : WriteD) (hs : Small fs) (hw : w.file.length ≤ 1000000) (hwb : w.b.length ≤ 1000000) (hle : left ≤ 9223372036854775807) (hval : validB fs cap = true) (hop : opB w = true) (hz : (left == 0) = false)
    (hv : Fun Tryz.prog 73 [diskD fs cap left false] (.val .nilIface)) (ho' : Fun Tryz.prog 74 [.agg [i8 w.op, str w.file, str w.b, int w.n]] (boo true)) :
    Fun Tryz.prog 40 [diskD fs cap left false, .agg w.dv] (.tup [(doF ⟨fs, cap, left, false⟩ w).1.d, int (doF ⟨fs, cap, left, false⟩ w).2]) := by
  have hu := hs.used
  have hl := hs.1
  have hfb := fileAt_small fs w.file hs
  have hat := findAt_le fs w.file
  have hft := fits_fun fs cap left false w (fileAt fs w.file) (isAt fs w.file) hs hfb hwb
  cases hfit : fitsO fs cap w (fileAt fs w.file) (isAt fs w.file) with
  | some q =>
    obtain ⟨m, n⟩ := q
    rw [hfit] at hft
    simp only [errO] at hft
    have hd : doF ⟨fs, cap, left, false⟩ w = (⟨[], 0, 0, false⟩, n) := by simp only [doF, hop, hval, hz, hfit]; rfl
    rw [hd]
    refine Fun.weaken (r := .tup [.agg [nilV, int 0, int 0, boo false], int n]) ?_ (fun K v h => zeroDisk h)
    (refine Fun.of_body Tryz.func40 rfl rfl Tryz.ntmps40 Tryz.results40 (by simp) ?_)
    (refine Wp.sreg (fun K hK => ?_); simp (maxSteps := 2000000) (disch := omega) only [RUN, TY, RUNB, aop, ofV, SV.ofD, Value.oneCell', Nat.reduceBEq, Nat.reduceAdd, Nat.reduceLT, WriteD.dv]; refine hK _ ?_; clear hK K)
    ((first | refine Wp.sreg (fun K hK => ?_) | refine Wp.reg (fun K hK => ?_) | (refine Wp.seq ?_; first | refine Wp.sreg (fun K hK => ?_) | refine Wp.reg (fun K hK => ?_))); simp (maxSteps := 2000000) (disch := omega) only [RUN, TY, RUNB, aop, aLd, CV.toD0, oWn, Nat.reduceBEq, Nat.reduceAdd, Nat.reduceLT]; refine bcf (hv) ?_; simp (maxSteps := 2000000) (disch := omega) only [RUN, TY, RUNB, aop, ofV, SV.ofD, aLd, CV.exact, CV.toD0, oWn, Nat.reduceBEq, Nat.reduceAdd, Nat.reduceLT]; refine bcf (ho') ?_; simp (maxSteps := 2000000) (disch := omega) only [RUN, RUNB, aop, ofV, SV.ofD, CV.exact, Nat.reduceBEq, Nat.reduceAdd, Nat.reduceLT]; refine hK _ ?_; clear hK K)
    (repeat (first | refine Wp.skip ?_ | refine Wp.exit ?_ | refine Wp.ret ?_ | refine Wp.block ?_ | refine Wp.label ?_ | ((first | (first | refine Wp.sreg (fun K hK => ?_) | refine Wp.reg (fun K hK => ?_) | refine Wp.sdrw mixed (fun K hK => ?_) | refine Wp.drw mixed (fun K hK => ?_)) | refine Wp.condG (fun K hT hF => ?_)); simp (maxSteps := 2000000) (disch := omega) only [RUN, TY, RUNB, aop, ofV, aLd, aFd, aMF, oWn, Nat.reduceBEq, Nat.reduceAdd, Nat.reduceLT, Nat.reduceLeDiff, hz]; (first | (refine hK _ ?_; clear hK K) | (refine ⟨by kernel_rfl, hK _ ?_⟩; clear hK K) | (refine hT ?_; clear hT hF K) | (refine hF ?_; clear hT hF K))) | refine Wp.seq ?_))
    refine Wp.weak (σ' := doS1 ⟨fs, cap, left, false⟩ w) ?_ ?_
    · refine Weak.trans (Weak.freeze (id := 1) (by simp (maxSteps := 2000000) (disch := omega) only [RUN, Nat.reduceBEq]; rfl) (by simp (maxSteps := 2000000) (disch := omega) only [RUNB, CV.toD0]; rfl)) (Weak.keep rfl rfl ?_)
      simp (maxSteps := 2000000) (disch := omega) only [RUN, RUNB, Nat.reduceBEq, WriteD.dv]
    ((first | refine Wp.sreg (fun K hK => ?_) | refine Wp.reg (fun K hK => ?_) | (refine Wp.seq ?_; first | refine Wp.sreg (fun K hK => ?_) | refine Wp.reg (fun K hK => ?_))); simp (maxSteps := 2000000) (disch := omega) only [RUN, TY, RUNB, aop, aLd, aFd, aMF, oWn, Nat.reduceBEq, Nat.reduceAdd, Nat.reduceLT, Nat.reduceLeDiff]; refine bcf ((first_fun fs _ _ (fun f => !Op.bytesLess f.name w.file) (by omega) (fun f => do1_fun f w))) ?_; simp (maxSteps := 2000000) (disch := omega) only [RUN, RUNB, aop, SV.ofD, Nat.reduceAdd, Nat.reduceLT]; refine hK _ ?_; clear hK K)
    rw [show List.findIdx (fun f : FileD => !Op.bytesLess f.name w.file) fs = findAt fs w.file from rfl]
    (refine Wp.sreg (fun K hK => ?_); simp (maxSteps := 2000000) (disch := omega) only [RUN, TY, RUNB, aop, aLd, aSt, aFd, CV.one, D.one, Value.oneCell', reduceCtorEq, Nat.reduceBEq, Nat.reduceAdd, Nat.reduceLT, Nat.reduceLeDiff, WriteD.dv]; refine hK _ ?_; clear hK K)
    (first | refine Wp.stoD 9 (vb (isAt fs w.file)) mixed ?_ ?_ | refine Wp.rtoDS 9 (vb (isAt fs w.file)) mixed ?_ ?_ | (refine Wp.seq ?_; first | refine Wp.stoD 9 (vb (isAt fs w.file)) mixed ?_ ?_ | refine Wp.rtoDS 9 (vb (isAt fs w.file)) mixed ?_ ?_))
    · by_cases hlt : findAt fs w.file < fs.length
      · have hc : decide ((findAt fs w.file : Int) < (fs.length : Int)) = true := by simp; omega
        simp (maxSteps := 2000000) (disch := omega) only [RUN, TY, RUNB, aop, ofV, aLd, aFd, aLen, aBu, CV.exact, CV.lstOf, CV.lenOf, Nat.reduceBEq, Nat.reduceAdd, Nat.reduceLT, Nat.reduceLeDiff, hc, List.getElem?_eq_getElem hlt, FileD.dv, isAt]
        exact (show okTr _ _ = true by kernel_rfl)
      · have hc : decide ((findAt fs w.file : Int) < (fs.length : Int)) = false := by simp; omega
        have hn : fs[findAt fs w.file]? = none := List.getElem?_eq_none (by omega)
        simp (maxSteps := 2000000) (disch := omega) only [RUN, TY, RUNB, aop, ofV, aLd, aFd, aLen, aBu, CV.exact, CV.lenOf, Nat.reduceBEq, Nat.reduceAdd, Nat.reduceLT, Nat.reduceLeDiff, hc, hn, isAt]
        exact (show okTr _ _ = true by kernel_rfl)
    refine Wp.weak (σ' := doS15 ⟨fs, cap, left, false⟩ w) ?_ ?_
    · refine Weak.keep rfl rfl ?_
      simp (maxSteps := 2000000) (disch := omega) only [RUN, RUNB, Nat.reduceBEq, WriteD.dv]
    refine Wp.meet (doS2 ⟨fs, cap, left, false⟩ w) ?_ ?_
    · cases his : isAt fs w.file with
      | true =>
        obtain ⟨hlt, h1, h2⟩ := isAt_lt his
        (repeat (first | refine Wp.skip ?_ | refine Wp.exit ?_ | refine Wp.ret ?_ | refine Wp.block ?_ | refine Wp.label ?_ | ((first | (first | refine Wp.sreg (fun K hK => ?_) | refine Wp.reg (fun K hK => ?_) | refine Wp.sdrw mixed (fun K hK => ?_) | refine Wp.drw mixed (fun K hK => ?_)) | refine Wp.condG (fun K hT hF => ?_)); simp (maxSteps := 2000000) (disch := omega) only [RUN, TY, RUNB, aop, ofV, aLd, aSt, aFd, CV.exact, CV.lstOf, Nat.reduceBEq, Nat.reduceAdd, Nat.reduceLT, Nat.reduceLeDiff, his, List.getElem?_eq_getElem hlt, FileD.dv]; (first | (refine hK _ ?_; clear hK K) | (refine ⟨by kernel_rfl, hK _ ?_⟩; clear hK K) | (refine hT ?_; clear hT hF K) | (refine hF ?_; clear hT hF K))) | refine Wp.seq ?_))
        refine Weak.keep rfl rfl ?_
        simp (maxSteps := 2000000) (disch := omega) only [RUN, RUNB, Nat.reduceBEq, his, h2, behAt]
      | false =>
        have h2 := isAt_no his
        (repeat (first | refine Wp.skip ?_ | refine Wp.exit ?_ | refine Wp.ret ?_ | refine Wp.block ?_ | refine Wp.label ?_ | ((first | (first | refine Wp.sreg (fun K hK => ?_) | refine Wp.reg (fun K hK => ?_) | refine Wp.sdrw mixed (fun K hK => ?_) | refine Wp.drw mixed (fun K hK => ?_)) | refine Wp.condG (fun K hT hF => ?_)); simp (maxSteps := 2000000) (disch := omega) only [RUN, RUNB, aop, Nat.reduceBEq, Nat.reduceAdd, Nat.reduceLT, his]; (first | (refine hK _ ?_; clear hK K) | (refine ⟨by kernel_rfl, hK _ ?_⟩; clear hK K) | (refine hT ?_; clear hT hF K) | (refine hF ?_; clear hT hF K))) | refine Wp.seq ?_))
        refine Weak.keep rfl rfl ?_
        simp (maxSteps := 2000000) (disch := omega) only [RUN, RUNB, Nat.reduceBEq, his, h2, behAt]
    ((first | refine Wp.sreg (fun K hK => ?_) | refine Wp.reg (fun K hK => ?_) | (refine Wp.seq ?_; first | refine Wp.sreg (fun K hK => ?_) | refine Wp.reg (fun K hK => ?_))); simp (maxSteps := 2000000) (disch := omega) only [RUN, TY, RUNB, aop, aLd, CV.toD0, oWn, Nat.reduceBEq, Nat.reduceAdd, Nat.reduceLT, WriteD.dv]; refine bcf (hft) ?_; simp (maxSteps := 2000000) (disch := omega) only [RUN, RUNB, aop, SV.ofD, Nat.reduceAdd, Nat.reduceLT]; refine hK _ ?_; clear hK K)
    (repeat (first | refine Wp.skip ?_ | refine Wp.exit ?_ | refine Wp.ret ?_ | refine Wp.block ?_ | refine Wp.label ?_ | ((first | (first | refine Wp.sreg (fun K hK => ?_) | refine Wp.reg (fun K hK => ?_) | refine Wp.sdrw mixed (fun K hK => ?_) | refine Wp.drw mixed (fun K hK => ?_)) | refine Wp.condG (fun K hT hF => ?_)); simp (maxSteps := 2000000) (disch := omega) only [RUN, TY, RUNB, aop, ofV, Value.oneCell', oWn, reduceCtorEq, Nat.reduceBEq, Nat.reduceAdd, Nat.reduceLT]; (first | (refine hK _ ?_; clear hK K) | (refine ⟨by kernel_rfl, hK _ ?_⟩; clear hK K) | (refine hT ?_; clear hT hF K) | (refine hF ?_; clear hT hF K))) | refine Wp.seq ?_))
    ((first | refine Wp.sreg (fun K hK => ?_) | refine Wp.reg (fun K hK => ?_) | (refine Wp.seq ?_; first | refine Wp.sreg (fun K hK => ?_) | refine Wp.reg (fun K hK => ?_))); simp (maxSteps := 2000000) (disch := omega) only [RUN, TY, RUNB, aop, Value.oneCell', oWn, reduceCtorEq, Nat.reduceBEq, Nat.reduceAdd, Nat.reduceLT]; refine bcf ((code_err m n)) ?_; simp (maxSteps := 2000000) (disch := omega) only [RUN, TY, RUNB, aop, SV.ofD, aSt, Nat.reduceBEq, Nat.reduceAdd, Nat.reduceLT]; refine hK _ ?_; clear hK K)
    (repeat (first | refine Wp.skip ?_ | refine Wp.exit ?_ | refine Wp.ret ?_ | refine Wp.block ?_ | refine Wp.label ?_ | ((first | (first | refine Wp.sreg (fun K hK => ?_) | refine Wp.reg (fun K hK => ?_) | refine Wp.sdrw mixed (fun K hK => ?_) | refine Wp.drw mixed (fun K hK => ?_)) | refine Wp.condG (fun K hT hF => ?_)); simp (maxSteps := 2000000) (disch := omega) only [RUN, TY, RUNB, aop, ofV, SV.ofD, aLd, aSt, aFd, aPt, aLen, aSl, aIf, aMF, aXt, aBu, aCX, aCL, aCy, CV.exact, CV.lstOf, CV.lenOf, CV.one, D.one, Value.oneCell', CV.toD0, iFl, oWn, pLk, nD0, rD0, bQ0, tQ0, kQ0, reduceCtorEq, reduceIte, Nat.reduceBEq, Nat.reduceEqDiff, Nat.reduceAdd, Nat.reduceMul, Nat.reduceSub, Nat.reduceLT, Nat.reduceLeDiff, Nat.reduceBNe, Int.reduceLE, Int.reduceLT, Int.reduceBEq, Int.reduceBNe, Int.reduceEq, Int.reduceNeg, Int.reduceAdd, Int.reduceSub, Int.reduceToNat, forall_const]; (first | (refine hK _ ?_; clear hK K) | (refine ⟨by kernel_rfl, hK _ ?_⟩; clear hK K) | (refine hT ?_; clear hT hF K) | (refine hF ?_; clear hT hF K))) | refine Wp.seq ?_))
    simp (maxSteps := 2000000) (disch := omega) only [RUN, TY, RUNB, aLd, CV.toD0, rD0, bQ0, tQ0, Nat.reduceBEq, Nat.reduceAdd]
  | none =>
    rw [hfit] at hft
    simp only [errO] at hft
    have hd : doF ⟨fs, cap, left, false⟩ w = (⟨withF fs w.file (afterF (fileAt fs w.file) w), cap, if decide (0 < left) then left - 1 else left, false⟩, 0) := by simp only [doF, hop, hval, hz, hfit]; rfl
    rw [hd]
    have haf := after_fun (fileAt fs w.file) w hfb hwb (fits_3 hop hfit)
    (refine Fun.of_body Tryz.func40 rfl rfl Tryz.ntmps40 Tryz.results40 (by simp) ?_)
    (refine Wp.sreg (fun K hK => ?_); simp (maxSteps := 2000000) (disch := omega) only [RUN, TY, RUNB, aop, ofV, SV.ofD, Value.oneCell', Nat.reduceBEq, Nat.reduceAdd, Nat.reduceLT, WriteD.dv]; refine hK _ ?_; clear hK K)
    ((first | refine Wp.sreg (fun K hK => ?_) | refine Wp.reg (fun K hK => ?_) | (refine Wp.seq ?_; first | refine Wp.sreg (fun K hK => ?_) | refine Wp.reg (fun K hK => ?_))); simp (maxSteps := 2000000) (disch := omega) only [RUN, TY, RUNB, aop, aLd, CV.toD0, oWn, Nat.reduceBEq, Nat.reduceAdd, Nat.reduceLT]; refine bcf (hv) ?_; simp (maxSteps := 2000000) (disch := omega) only [RUN, TY, RUNB, aop, ofV, SV.ofD, aLd, CV.exact, CV.toD0, oWn, Nat.reduceBEq, Nat.reduceAdd, Nat.reduceLT]; refine bcf (ho') ?_; simp (maxSteps := 2000000) (disch := omega) only [RUN, RUNB, aop, ofV, SV.ofD, CV.exact, Nat.reduceBEq, Nat.reduceAdd, Nat.reduceLT]; refine hK _ ?_; clear hK K)
    (repeat (first | refine Wp.skip ?_ | refine Wp.exit ?_ | refine Wp.ret ?_ | refine Wp.block ?_ | refine Wp.label ?_ | ((first | (first | refine Wp.sreg (fun K hK => ?_) | refine Wp.reg (fun K hK => ?_) | refine Wp.sdrw mixed (fun K hK => ?_) | refine Wp.drw mixed (fun K hK => ?_)) | refine Wp.condG (fun K hT hF => ?_)); simp (maxSteps := 2000000) (disch := omega) only [RUN, TY, RUNB, aop, ofV, aLd, aFd, aMF, oWn, Nat.reduceBEq, Nat.reduceAdd, Nat.reduceLT, Nat.reduceLeDiff, hz]; (first | (refine hK _ ?_; clear hK K) | (refine ⟨by kernel_rfl, hK _ ?_⟩; clear hK K) | (refine hT ?_; clear hT hF K) | (refine hF ?_; clear hT hF K))) | refine Wp.seq ?_))
    refine Wp.weak (σ' := doS1 ⟨fs, cap, left, false⟩ w) ?_ ?_
    · refine Weak.trans (Weak.freeze (id := 1) (by simp (maxSteps := 2000000) (disch := omega) only [RUN, Nat.reduceBEq]; rfl) (by simp (maxSteps := 2000000) (disch := omega) only [RUNB, CV.toD0]; rfl)) (Weak.keep rfl rfl ?_)
      simp (maxSteps := 2000000) (disch := omega) only [RUN, RUNB, Nat.reduceBEq, WriteD.dv]
    ((first | refine Wp.sreg (fun K hK => ?_) | refine Wp.reg (fun K hK => ?_) | (refine Wp.seq ?_; first | refine Wp.sreg (fun K hK => ?_) | refine Wp.reg (fun K hK => ?_))); simp (maxSteps := 2000000) (disch := omega) only [RUN, TY, RUNB, aop, aLd, aFd, aMF, oWn, Nat.reduceBEq, Nat.reduceAdd, Nat.reduceLT, Nat.reduceLeDiff]; refine bcf ((first_fun fs _ _ (fun f => !Op.bytesLess f.name w.file) (by omega) (fun f => do1_fun f w))) ?_; simp (maxSteps := 2000000) (disch := omega) only [RUN, RUNB, aop, SV.ofD, Nat.reduceAdd, Nat.reduceLT]; refine hK _ ?_; clear hK K)
    rw [show List.findIdx (fun f : FileD => !Op.bytesLess f.name w.file) fs = findAt fs w.file from rfl]
    (refine Wp.sreg (fun K hK => ?_); simp (maxSteps := 2000000) (disch := omega) only [RUN, TY, RUNB, aop, aLd, aSt, aFd, CV.one, D.one, Value.oneCell', reduceCtorEq, Nat.reduceBEq, Nat.reduceAdd, Nat.reduceLT, Nat.reduceLeDiff, WriteD.dv]; refine hK _ ?_; clear hK K)
    (first | refine Wp.stoD 9 (vb (isAt fs w.file)) mixed ?_ ?_ | refine Wp.rtoDS 9 (vb (isAt fs w.file)) mixed ?_ ?_ | (refine Wp.seq ?_; first | refine Wp.stoD 9 (vb (isAt fs w.file)) mixed ?_ ?_ | refine Wp.rtoDS 9 (vb (isAt fs w.file)) mixed ?_ ?_))
    · by_cases hlt : findAt fs w.file < fs.length
      · have hc : decide ((findAt fs w.file : Int) < (fs.length : Int)) = true := by simp; omega
        simp (maxSteps := 2000000) (disch := omega) only [RUN, TY, RUNB, aop, ofV, aLd, aFd, aLen, aBu, CV.exact, CV.lstOf, CV.lenOf, Nat.reduceBEq, Nat.reduceAdd, Nat.reduceLT, Nat.reduceLeDiff, hc, List.getElem?_eq_getElem hlt, FileD.dv, isAt]
        exact (show okTr _ _ = true by kernel_rfl)
      · have hc : decide ((findAt fs w.file : Int) < (fs.length : Int)) = false := by simp; omega
        have hn : fs[findAt fs w.file]? = none := List.getElem?_eq_none (by omega)
        simp (maxSteps := 2000000) (disch := omega) only [RUN, TY, RUNB, aop, ofV, aLd, aFd, aLen, aBu, CV.exact, CV.lenOf, Nat.reduceBEq, Nat.reduceAdd, Nat.reduceLT, Nat.reduceLeDiff, hc, hn, isAt]
        exact (show okTr _ _ = true by kernel_rfl)
    refine Wp.weak (σ' := doS15 ⟨fs, cap, left, false⟩ w) ?_ ?_
    · refine Weak.keep rfl rfl ?_
      simp (maxSteps := 2000000) (disch := omega) only [RUN, RUNB, Nat.reduceBEq, WriteD.dv]
    refine Wp.meet (doS2 ⟨fs, cap, left, false⟩ w) ?_ ?_
    · cases his : isAt fs w.file with
      | true =>
        obtain ⟨hlt, h1, h2⟩ := isAt_lt his
        (repeat (first | refine Wp.skip ?_ | refine Wp.exit ?_ | refine Wp.ret ?_ | refine Wp.block ?_ | refine Wp.label ?_ | ((first | (first | refine Wp.sreg (fun K hK => ?_) | refine Wp.reg (fun K hK => ?_) | refine Wp.sdrw mixed (fun K hK => ?_) | refine Wp.drw mixed (fun K hK => ?_)) | refine Wp.condG (fun K hT hF => ?_)); simp (maxSteps := 2000000) (disch := omega) only [RUN, TY, RUNB, aop, ofV, aLd, aSt, aFd, CV.exact, CV.lstOf, Nat.reduceBEq, Nat.reduceAdd, Nat.reduceLT, Nat.reduceLeDiff, his, List.getElem?_eq_getElem hlt, FileD.dv]; (first | (refine hK _ ?_; clear hK K) | (refine ⟨by kernel_rfl, hK _ ?_⟩; clear hK K) | (refine hT ?_; clear hT hF K) | (refine hF ?_; clear hT hF K))) | refine Wp.seq ?_))
        refine Weak.keep rfl rfl ?_
        simp (maxSteps := 2000000) (disch := omega) only [RUN, RUNB, Nat.reduceBEq, his, h2, behAt]
      | false =>
        have h2 := isAt_no his
        (repeat (first | refine Wp.skip ?_ | refine Wp.exit ?_ | refine Wp.ret ?_ | refine Wp.block ?_ | refine Wp.label ?_ | ((first | (first | refine Wp.sreg (fun K hK => ?_) | refine Wp.reg (fun K hK => ?_) | refine Wp.sdrw mixed (fun K hK => ?_) | refine Wp.drw mixed (fun K hK => ?_)) | refine Wp.condG (fun K hT hF => ?_)); simp (maxSteps := 2000000) (disch := omega) only [RUN, RUNB, aop, Nat.reduceBEq, Nat.reduceAdd, Nat.reduceLT, his]; (first | (refine hK _ ?_; clear hK K) | (refine ⟨by kernel_rfl, hK _ ?_⟩; clear hK K) | (refine hT ?_; clear hT hF K) | (refine hF ?_; clear hT hF K))) | refine Wp.seq ?_))
        refine Weak.keep rfl rfl ?_
        simp (maxSteps := 2000000) (disch := omega) only [RUN, RUNB, Nat.reduceBEq, his, h2, behAt]
    ((first | refine Wp.sreg (fun K hK => ?_) | refine Wp.reg (fun K hK => ?_) | (refine Wp.seq ?_; first | refine Wp.sreg (fun K hK => ?_) | refine Wp.reg (fun K hK => ?_))); simp (maxSteps := 2000000) (disch := omega) only [RUN, TY, RUNB, aop, aLd, CV.toD0, oWn, Nat.reduceBEq, Nat.reduceAdd, Nat.reduceLT, WriteD.dv]; refine bcf (hft) ?_; simp (maxSteps := 2000000) (disch := omega) only [RUN, RUNB, aop, SV.ofD, Nat.reduceAdd, Nat.reduceLT]; refine hK _ ?_; clear hK K)
    (repeat (first | refine Wp.skip ?_ | refine Wp.exit ?_ | refine Wp.ret ?_ | refine Wp.block ?_ | refine Wp.label ?_ | ((first | (first | refine Wp.sreg (fun K hK => ?_) | refine Wp.reg (fun K hK => ?_) | refine Wp.sdrw mixed (fun K hK => ?_) | refine Wp.drw mixed (fun K hK => ?_)) | refine Wp.condG (fun K hT hF => ?_)); simp (maxSteps := 2000000) (disch := omega) only [RUN, TY, RUNB, aop, ofV, aLd, CV.toD0, oWn, Nat.reduceBEq, Nat.reduceAdd, Nat.reduceLT]; (first | (refine hK _ ?_; clear hK K) | (refine ⟨by kernel_rfl, hK _ ?_⟩; clear hK K) | (refine hT ?_; clear hT hF K) | (refine hF ?_; clear hT hF K))) | refine Wp.seq ?_))
    ((first | refine Wp.sreg (fun K hK => ?_) | refine Wp.reg (fun K hK => ?_) | (refine Wp.seq ?_; first | refine Wp.sreg (fun K hK => ?_) | refine Wp.reg (fun K hK => ?_))); simp (maxSteps := 2000000) (disch := omega) only [RUN, TY, RUNB, aop, aLd, CV.toD0, oWn, Nat.reduceBEq, Nat.reduceAdd, Nat.reduceLT]; refine bcf (haf) ?_; simp (maxSteps := 2000000) (disch := omega) only [RUN, TY, RUNB, aop, SV.ofD, aSt, Nat.reduceBEq, Nat.reduceAdd, Nat.reduceLT, FileD.dv]; refine hK _ ?_; clear hK K)
    (repeat (first | refine Wp.skip ?_ | refine Wp.exit ?_ | refine Wp.ret ?_ | refine Wp.block ?_ | refine Wp.label ?_ | ((first | (first | refine Wp.sreg (fun K hK => ?_) | refine Wp.reg (fun K hK => ?_) | refine Wp.sdrw mixed (fun K hK => ?_) | refine Wp.drw mixed (fun K hK => ?_)) | refine Wp.condG (fun K hT hF => ?_)); simp (maxSteps := 2000000) (disch := omega) only [RUN, TY, RUNB, aop, ofV, aLd, aFd, Nat.reduceBEq, Nat.reduceAdd, Nat.reduceLT, Nat.reduceLeDiff]; (first | (refine hK _ ?_; clear hK K) | (refine ⟨by kernel_rfl, hK _ ?_⟩; clear hK K) | (refine hT ?_; clear hT hF K) | (refine hF ?_; clear hT hF K))) | refine Wp.seq ?_))
    generalize hf' : afterF (fileAt fs w.file) w = f' at haf
    have hnow : (nowF f').map FileD.dv = if (f'.b == []) = true then [] else [f'.dv] := by unfold nowF; split <;> rfl
    refine Wp.meetT (doS4 ⟨fs, cap, left, false⟩ w f') ?_ ?_
    · cases hb : (f'.b == []) with
      | true =>
        (repeat (first | refine Wp.skip ?_ | refine Wp.exit ?_ | refine Wp.ret ?_ | refine Wp.block ?_ | refine Wp.label ?_ | ((first | (first | refine Wp.sreg (fun K hK => ?_) | refine Wp.reg (fun K hK => ?_) | refine Wp.sdrw mixed (fun K hK => ?_) | refine Wp.drw mixed (fun K hK => ?_)) | refine Wp.condG (fun K hT hF => ?_)); simp (maxSteps := 2000000) (disch := omega) only [RUN, RUNB]; (first | (refine hK _ ?_; clear hK K) | (refine ⟨by kernel_rfl, hK _ ?_⟩; clear hK K) | (refine hT ?_; clear hT hF K) | (refine hF ?_; clear hT hF K))) | refine Wp.seq ?_))
        show Weak _ _
        refine Weak.trans (Weak.slot (t := 11) (x := .c (.d nilV)) (y := .c (.d (.lst 3 []))) (by simp (maxSteps := 2000000) (disch := omega) only [RUN, Nat.reduceBEq]) (fun g v h => h.nilL 3)) (Weak.keep rfl rfl ?_)
        simp (maxSteps := 2000000) (disch := omega) only [RUN, RUNB, Nat.reduceBEq, hnow, hb, WriteD.dv]
      | false =>
        (repeat (first | refine Wp.skip ?_ | refine Wp.exit ?_ | refine Wp.ret ?_ | refine Wp.block ?_ | refine Wp.label ?_ | ((first | (first | refine Wp.sreg (fun K hK => ?_) | refine Wp.reg (fun K hK => ?_) | refine Wp.sdrw mixed (fun K hK => ?_) | refine Wp.drw mixed (fun K hK => ?_)) | refine Wp.condG (fun K hT hF => ?_)); simp (maxSteps := 2000000) (disch := omega) only [RUN, TY, RUNB, aop, aLd, Value.oneCell', CV.toD0, Nat.reduceBEq, Nat.reduceAdd, Nat.reduceMul, Nat.reduceLT, Nat.reduceLeDiff]; (first | (refine hK _ ?_; clear hK K) | (refine ⟨by kernel_rfl, hK _ ?_⟩; clear hK K) | (refine hT ?_; clear hT hF K) | (refine hF ?_; clear hT hF K))) | refine Wp.seq ?_))
        show Weak _ _
        refine Weak.trans (Weak.slot (t := 11) (x := .c (.full 3 [f'.dv])) (y := .c (.d (.lst 3 [f'.dv]))) (by simp (maxSteps := 2000000) (disch := omega) only [RUN, FileD.dv]) (fun g v h => h.1)) (Weak.keep rfl rfl ?_)
        simp (maxSteps := 2000000) (disch := omega) only [RUN, RUNB, Nat.reduceBEq, hnow, hb, WriteD.dv]
    have hbeh : behAt fs w.file ≤ fs.length := by
      unfold behAt
      cases his : isAt fs w.file with
      | true => obtain ⟨hlt, _⟩ := isAt_lt his; simp; omega
      | false => simpa using hat
    have hw1 : withF fs w.file f' = fs.take (findAt fs w.file) ++ nowF f' ++ fs.drop (behAt fs w.file) := rfl
    have ht1 : (fs.map FileD.dv).take (findAt fs w.file) = (fs.take (findAt fs w.file)).map FileD.dv := by rw [List.map_take]
    have ht2 : ((fs.map FileD.dv).drop (behAt fs w.file)).take (fs.length - behAt fs w.file) = (fs.drop (behAt fs w.file)).map FileD.dv := by
      rw [List.take_of_length_le (by simp), List.map_drop]
    have hcat : catF [fs.take (findAt fs w.file), nowF f', fs.drop (behAt fs w.file)] = withF fs w.file f' := by rw [hw1]; simp [catF]
    have hcl : (catF [fs.take (findAt fs w.file), nowF f', fs.drop (behAt fs w.file)]).length ≤ 1000000 := by
      rw [hcat, hw1]
      have : (nowF f').length ≤ 1 := by unfold nowF; split <;> simp
      simp; omega
    have hcc := (concat_fun [fs.take (findAt fs w.file), nowF f', fs.drop (behAt fs w.file)] (by simp) hcl).fun
    rw [hcat] at hcc
    simp only [segsD, List.map_cons, List.map_nil] at hcc
    ((first | refine Wp.sdrw mixed (fun K hK => ?_) | refine Wp.drw mixed (fun K hK => ?_) | (refine Wp.seq ?_; first | refine Wp.sdrw mixed (fun K hK => ?_) | refine Wp.drw mixed (fun K hK => ?_))); simp (maxSteps := 2000000) (disch := omega) only [RUN, TY, RUNB, aop, aLd, aFd, aSl, CV.exact, CV.lstOf, CV.one, D.one, Value.oneCell', CV.toD0, iFl, oWn, reduceCtorEq, Nat.reduceBEq, Nat.reduceAdd, Nat.reduceMul, Nat.reduceLT, Nat.reduceLeDiff, ht1, ht2, hat, hbeh]; refine bcf (hcc) ?_; simp (maxSteps := 2000000) (disch := omega) only [RUN, TY, RUNB, aop, SV.ofD, aSt, aFd, CV.one, D.one, Nat.reduceBEq, Nat.reduceAdd, Nat.reduceLT, Nat.reduceLeDiff]; refine ⟨by kernel_rfl, hK _ ?_⟩; clear hK K)
    cases hlf : decide (0 < left) with
    | true =>
      have := of_decide_eq_true hlf
      (repeat (first | refine Wp.skip ?_ | refine Wp.exit ?_ | refine Wp.ret ?_ | refine Wp.block ?_ | refine Wp.label ?_ | ((first | (first | refine Wp.sreg (fun K hK => ?_) | refine Wp.reg (fun K hK => ?_) | refine Wp.sdrw mixed (fun K hK => ?_) | refine Wp.drw mixed (fun K hK => ?_)) | refine Wp.condG (fun K hT hF => ?_)); simp (maxSteps := 2000000) (disch := omega) only [RUN, TY, RUNB, aop, ofV, aLd, aSt, aFd, CV.one, D.one, Value.oneCell', Nat.reduceBEq, Nat.reduceAdd, Nat.reduceLT, Nat.reduceLeDiff, hlf]; (first | (refine hK _ ?_; clear hK K) | (refine ⟨by kernel_rfl, hK _ ?_⟩; clear hK K) | (refine hT ?_; clear hT hF K) | (refine hF ?_; clear hT hF K))) | refine Wp.seq ?_))
      simp (maxSteps := 2000000) (disch := omega) only [RUN, TY, RUNB, aLd, CV.toD0, rD0, bQ0, Nat.reduceBEq, Nat.reduceAdd]
    | false =>
      (repeat (first | refine Wp.skip ?_ | refine Wp.exit ?_ | refine Wp.ret ?_ | refine Wp.block ?_ | refine Wp.label ?_ | ((first | (first | refine Wp.sreg (fun K hK => ?_) | refine Wp.reg (fun K hK => ?_) | refine Wp.sdrw mixed (fun K hK => ?_) | refine Wp.drw mixed (fun K hK => ?_)) | refine Wp.condG (fun K hT hF => ?_)); simp (maxSteps := 2000000) (disch := omega) only [RUN, TY, RUNB, aop, ofV, aLd, aSt, aFd, Nat.reduceBEq, Nat.reduceAdd, Nat.reduceLT, Nat.reduceLeDiff, hlf]; (first | (refine hK _ ?_; clear hK K) | (refine ⟨by kernel_rfl, hK _ ?_⟩; clear hK K) | (refine hT ?_; clear hT hF K) | (refine hF ?_; clear hT hF K))) | refine Wp.seq ?_))
      simp (maxSteps := 2000000) (disch := omega) only [RUN, TY, RUNB, aLd, CV.toD0, rD0, bQ0, Nat.reduceBEq, Nat.reduceAdd]
theorem do_fun (s : DiskS) (w : WriteD) (hs : Small s.fs) (hw : w.file.length ≤ 1000000) (hwb : w.b.length ≤ 1000000) (hle : s.left ≤ 9223372036854775807) : Fun Tryz.prog 40 [s.d, .agg w.dv] (.tup [(doF s w).1.d, int (doF s w).2]) := by
  obtain ⟨fs, cap, left, down⟩ := s
  have hu := hs.used
  have hl := hs.1
  simp only at hs hu hl hle
  have hv := valid_fun fs cap left down hs
  have ho := operation_fun w
  cases hval : validB fs cap with
  | false =>
    rw [hval] at hv
    have hd : doF ⟨fs, cap, left, down⟩ w = (⟨[], 0, 0, false⟩, 2) := by simp [doF, hval]
    rw [hd]
    refine Fun.weaken (r := .tup [.agg [nilV, int 0, int 0, boo false], int 2]) ?_ (fun K v h => zeroDisk h)
    (refine Fun.of_body Tryz.func40 rfl rfl Tryz.ntmps40 Tryz.results40 (by simp) ?_)
    (refine Wp.sreg (fun K hK => ?_); simp (maxSteps := 2000000) (disch := omega) only [RUN, TY, RUNB, aop, ofV, SV.ofD, Value.oneCell', Nat.reduceBEq, Nat.reduceAdd, Nat.reduceLT, WriteD.dv]; refine hK _ ?_; clear hK K)
    ((first | refine Wp.sreg (fun K hK => ?_) | refine Wp.reg (fun K hK => ?_) | (refine Wp.seq ?_; first | refine Wp.sreg (fun K hK => ?_) | refine Wp.reg (fun K hK => ?_))); simp (maxSteps := 2000000) (disch := omega) only [RUN, TY, RUNB, aop, aLd, CV.toD0, oWn, Nat.reduceBEq, Nat.reduceAdd, Nat.reduceLT]; refine bcf (hv) ?_; simp (maxSteps := 2000000) (disch := omega) only [RUN, TY, RUNB, aop, ofV, SV.ofD, CV.exact, Nat.reduceBEq, Nat.reduceAdd, Nat.reduceLT]; refine hK _ ?_; clear hK K)
    (repeat (first | refine Wp.skip ?_ | refine Wp.exit ?_ | refine Wp.ret ?_ | refine Wp.block ?_ | refine Wp.label ?_ | ((first | (first | refine Wp.sreg (fun K hK => ?_) | refine Wp.reg (fun K hK => ?_) | refine Wp.sdrw mixed (fun K hK => ?_) | refine Wp.drw mixed (fun K hK => ?_)) | refine Wp.condG (fun K hT hF => ?_)); simp (maxSteps := 2000000) (disch := omega) only [RUN, TY, RUNB, aop, ofV, aSt, Value.oneCell', reduceCtorEq, Nat.reduceBEq, Nat.reduceAdd, Nat.reduceLT]; (first | (refine hK _ ?_; clear hK K) | (refine ⟨by kernel_rfl, hK _ ?_⟩; clear hK K) | (refine hT ?_; clear hT hF K) | (refine hF ?_; clear hT hF K))) | refine Wp.seq ?_))
    simp (maxSteps := 2000000) (disch := omega) only [RUN, TY, RUNB, aLd, CV.toD0, rD0, bQ0, tQ0, Nat.reduceBEq, Nat.reduceAdd]
  | true =>
    rw [hval] at hv
    cases hop : opB w with
    | false =>
      rw [hop] at ho
      have hd : doF ⟨fs, cap, left, down⟩ w = (⟨[], 0, 0, false⟩, 2) := by simp [doF, hop]
      rw [hd]
      refine Fun.weaken (r := .tup [.agg [nilV, int 0, int 0, boo false], int 2]) ?_ (fun K v h => zeroDisk h)
      have ho' := ho
      simp only [WriteD.dv] at ho'
      (refine Fun.of_body Tryz.func40 rfl rfl Tryz.ntmps40 Tryz.results40 (by simp) ?_)
      (refine Wp.sreg (fun K hK => ?_); simp (maxSteps := 2000000) (disch := omega) only [RUN, TY, RUNB, aop, ofV, SV.ofD, Value.oneCell', Nat.reduceBEq, Nat.reduceAdd, Nat.reduceLT, WriteD.dv]; refine hK _ ?_; clear hK K)
      ((first | refine Wp.sreg (fun K hK => ?_) | refine Wp.reg (fun K hK => ?_) | (refine Wp.seq ?_; first | refine Wp.sreg (fun K hK => ?_) | refine Wp.reg (fun K hK => ?_))); simp (maxSteps := 2000000) (disch := omega) only [RUN, TY, RUNB, aop, aLd, CV.toD0, oWn, Nat.reduceBEq, Nat.reduceAdd, Nat.reduceLT]; refine bcf (hv) ?_; simp (maxSteps := 2000000) (disch := omega) only [RUN, TY, RUNB, aop, ofV, SV.ofD, aLd, CV.exact, CV.toD0, oWn, Nat.reduceBEq, Nat.reduceAdd, Nat.reduceLT]; refine bcf (ho') ?_; simp (maxSteps := 2000000) (disch := omega) only [RUN, RUNB, aop, ofV, SV.ofD, CV.exact, Nat.reduceBEq, Nat.reduceAdd, Nat.reduceLT]; refine hK _ ?_; clear hK K)
      (repeat (first | refine Wp.skip ?_ | refine Wp.exit ?_ | refine Wp.ret ?_ | refine Wp.block ?_ | refine Wp.label ?_ | ((first | (first | refine Wp.sreg (fun K hK => ?_) | refine Wp.reg (fun K hK => ?_) | refine Wp.sdrw mixed (fun K hK => ?_) | refine Wp.drw mixed (fun K hK => ?_)) | refine Wp.condG (fun K hT hF => ?_)); simp (maxSteps := 2000000) (disch := omega) only [RUN, TY, RUNB, aop, ofV, aSt, Value.oneCell', reduceCtorEq, Nat.reduceBEq, Nat.reduceAdd, Nat.reduceLT]; (first | (refine hK _ ?_; clear hK K) | (refine ⟨by kernel_rfl, hK _ ?_⟩; clear hK K) | (refine hT ?_; clear hT hF K) | (refine hF ?_; clear hT hF K))) | refine Wp.seq ?_))
      simp (maxSteps := 2000000) (disch := omega) only [RUN, TY, RUNB, aLd, CV.toD0, rD0, bQ0, tQ0, Nat.reduceBEq, Nat.reduceAdd]
    | true =>
      rw [hop] at ho
      have ho' := ho
      simp only [WriteD.dv] at ho'
      cases down with
      | true =>
        have hd : doF ⟨fs, cap, left, true⟩ w = (⟨[], 0, 0, false⟩, 30) := by simp [doF, hop, hval]
        rw [hd]
        refine Fun.weaken (r := .tup [.agg [nilV, int 0, int 0, boo false], int 30]) ?_ (fun K v h => zeroDisk h)
        (refine Fun.of_body Tryz.func40 rfl rfl Tryz.ntmps40 Tryz.results40 (by simp) ?_)
        (refine Wp.sreg (fun K hK => ?_); simp (maxSteps := 2000000) (disch := omega) only [RUN, TY, RUNB, aop, ofV, SV.ofD, Value.oneCell', Nat.reduceBEq, Nat.reduceAdd, Nat.reduceLT, WriteD.dv]; refine hK _ ?_; clear hK K)
        ((first | refine Wp.sreg (fun K hK => ?_) | refine Wp.reg (fun K hK => ?_) | (refine Wp.seq ?_; first | refine Wp.sreg (fun K hK => ?_) | refine Wp.reg (fun K hK => ?_))); simp (maxSteps := 2000000) (disch := omega) only [RUN, TY, RUNB, aop, aLd, CV.toD0, oWn, Nat.reduceBEq, Nat.reduceAdd, Nat.reduceLT]; refine bcf (hv) ?_; simp (maxSteps := 2000000) (disch := omega) only [RUN, TY, RUNB, aop, ofV, SV.ofD, aLd, CV.exact, CV.toD0, oWn, Nat.reduceBEq, Nat.reduceAdd, Nat.reduceLT]; refine bcf (ho') ?_; simp (maxSteps := 2000000) (disch := omega) only [RUN, RUNB, aop, ofV, SV.ofD, CV.exact, Nat.reduceBEq, Nat.reduceAdd, Nat.reduceLT]; refine hK _ ?_; clear hK K)
        (repeat (first | refine Wp.skip ?_ | refine Wp.exit ?_ | refine Wp.ret ?_ | refine Wp.block ?_ | refine Wp.label ?_ | ((first | (first | refine Wp.sreg (fun K hK => ?_) | refine Wp.reg (fun K hK => ?_) | refine Wp.sdrw mixed (fun K hK => ?_) | refine Wp.drw mixed (fun K hK => ?_)) | refine Wp.condG (fun K hT hF => ?_)); simp (maxSteps := 2000000) (disch := omega) only [RUN, TY, RUNB, aop, ofV, aLd, aSt, aFd, Value.oneCell', reduceCtorEq, Nat.reduceBEq, Nat.reduceAdd, Nat.reduceLT]; (first | (refine hK _ ?_; clear hK K) | (refine ⟨by kernel_rfl, hK _ ?_⟩; clear hK K) | (refine hT ?_; clear hT hF K) | (refine hF ?_; clear hT hF K))) | refine Wp.seq ?_))
        simp (maxSteps := 2000000) (disch := omega) only [RUN, TY, RUNB, aLd, CV.toD0, rD0, bQ0, tQ0, Nat.reduceBEq, Nat.reduceAdd]
      | false =>
        cases hz : (left == 0) with
        | true =>
          have hd : doF ⟨fs, cap, left, false⟩ w = (⟨fs, cap, left, true⟩, 30) := by simp only [doF, hop, hval, hz]; rfl
          rw [hd]
          (refine Fun.of_body Tryz.func40 rfl rfl Tryz.ntmps40 Tryz.results40 (by simp) ?_)
          (refine Wp.sreg (fun K hK => ?_); simp (maxSteps := 2000000) (disch := omega) only [RUN, TY, RUNB, aop, ofV, SV.ofD, Value.oneCell', Nat.reduceBEq, Nat.reduceAdd, Nat.reduceLT, WriteD.dv]; refine hK _ ?_; clear hK K)
          ((first | refine Wp.sreg (fun K hK => ?_) | refine Wp.reg (fun K hK => ?_) | (refine Wp.seq ?_; first | refine Wp.sreg (fun K hK => ?_) | refine Wp.reg (fun K hK => ?_))); simp (maxSteps := 2000000) (disch := omega) only [RUN, TY, RUNB, aop, aLd, CV.toD0, oWn, Nat.reduceBEq, Nat.reduceAdd, Nat.reduceLT]; refine bcf (hv) ?_; simp (maxSteps := 2000000) (disch := omega) only [RUN, TY, RUNB, aop, ofV, SV.ofD, aLd, CV.exact, CV.toD0, oWn, Nat.reduceBEq, Nat.reduceAdd, Nat.reduceLT]; refine bcf (ho') ?_; simp (maxSteps := 2000000) (disch := omega) only [RUN, RUNB, aop, ofV, SV.ofD, CV.exact, Nat.reduceBEq, Nat.reduceAdd, Nat.reduceLT]; refine hK _ ?_; clear hK K)
          (repeat (first | refine Wp.skip ?_ | refine Wp.exit ?_ | refine Wp.ret ?_ | refine Wp.block ?_ | refine Wp.label ?_ | ((first | (first | refine Wp.sreg (fun K hK => ?_) | refine Wp.reg (fun K hK => ?_) | refine Wp.sdrw mixed (fun K hK => ?_) | refine Wp.drw mixed (fun K hK => ?_)) | refine Wp.condG (fun K hT hF => ?_)); simp (maxSteps := 2000000) (disch := omega) only [RUN, TY, RUNB, aop, ofV, aLd, aFd, oWn, Nat.reduceBEq, Nat.reduceAdd, Nat.reduceLT, Nat.reduceLeDiff, hz]; (first | (refine hK _ ?_; clear hK K) | (refine ⟨by kernel_rfl, hK _ ?_⟩; clear hK K) | (refine hT ?_; clear hT hF K) | (refine hF ?_; clear hT hF K))) | refine Wp.seq ?_))
          ((first | refine Wp.sreg (fun K hK => ?_) | refine Wp.reg (fun K hK => ?_) | (refine Wp.seq ?_; first | refine Wp.sreg (fun K hK => ?_) | refine Wp.reg (fun K hK => ?_))); simp (maxSteps := 2000000) (disch := omega) only [RUN, TY, RUNB, aop, aLd, aFd, oWn, Nat.reduceBEq, Nat.reduceAdd, Nat.reduceLT, Nat.reduceLeDiff]; refine bcf ((clone_fun fs (by omega)).fun) ?_; simp (maxSteps := 2000000) (disch := omega) only [RUN, TY, RUNB, aop, SV.ofD, aSt, aFd, CV.one, D.one, Nat.reduceBEq, Nat.reduceAdd, Nat.reduceLT, Nat.reduceLeDiff]; refine hK _ ?_; clear hK K)
          (repeat (first | refine Wp.skip ?_ | refine Wp.exit ?_ | refine Wp.ret ?_ | refine Wp.block ?_ | refine Wp.label ?_ | ((first | (first | refine Wp.sreg (fun K hK => ?_) | refine Wp.reg (fun K hK => ?_) | refine Wp.sdrw mixed (fun K hK => ?_) | refine Wp.drw mixed (fun K hK => ?_)) | refine Wp.condG (fun K hT hF => ?_)); simp (maxSteps := 2000000) (disch := omega) only [RUN, TY, RUNB, aop, ofV, aLd, aSt, aFd, CV.one, D.one, Value.oneCell', Nat.reduceBEq, Nat.reduceAdd, Nat.reduceLT]; (first | (refine hK _ ?_; clear hK K) | (refine ⟨by kernel_rfl, hK _ ?_⟩; clear hK K) | (refine hT ?_; clear hT hF K) | (refine hF ?_; clear hT hF K))) | refine Wp.seq ?_))
          simp (maxSteps := 2000000) (disch := omega) only [RUN, TY, RUNB, aLd, CV.toD0, rD0, bQ0, tQ0, Nat.reduceBEq, Nat.reduceAdd]
        | false => exact do_on fs cap left w hs hw hwb hle hval hop hz hv ho'
end Go.Proofs.YtepcpdionlfkhaaGreatDoor
