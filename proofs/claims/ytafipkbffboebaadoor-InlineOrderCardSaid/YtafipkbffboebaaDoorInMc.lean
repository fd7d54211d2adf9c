/- The abstract machine (InH, InI, InJ, InK, InL, InN, InO, InP). -/
import Derived.Test.YtafipkbffboebaaDoorInMb
namespace Go.Proofs.YtafipkbffboebaaDoor
open Go Go.RowKit
set_option maxHeartbeats 4000000
set_option maxRecDepth 100000
set_option linter.unusedVariables false
set_option linter.unusedSimpArgs false
theorem clone_Record (xs : List (List D)) (hl : xs.length ≤ 1000000) : FunA Tryd.prog 23 [.lst 2 xs] 70 2 xs := by
  cases xs with
  | nil =>
    refine FunA.of_nil (fun a c => ?_)
    (refine FunA.of_body Tryd.func23 rfl rfl Tryd.ntmps23 Tryd.results23 (by simp) ?_)
    cases a with
    | none =>
      (repeat (first | refine Wp.skip ?_ | refine Wp.exit ?_ | refine Wp.ret ?_ | refine Wp.block ?_ | refine Wp.label ?_ | ((first | (first | refine Wp.sreg (fun K hK => ?_) | refine Wp.reg (fun K hK => ?_) | refine Wp.sdrw mixed (fun K hK => ?_) | refine Wp.drw mixed (fun K hK => ?_)) | refine Wp.condG (fun K hT hF => ?_)); (refine rO (And.intro @Option.isNone_none.{0} (@Option.isNone_some.{0})) ?_; try (with_reducible exact True.intro)); (first | (refine hK _ ?_; clear hK K) | (refine ⟨by kernel_rfl, hK _ ?_⟩; clear hK K) | (refine hT ?_; clear hT hF K) | (refine hF ?_; clear hT hF K))) | refine Wp.seq ?_))
      (refine rO0 ?_; try (with_reducible exact True.intro))
    | some ad =>
      (repeat (first | refine Wp.skip ?_ | refine Wp.exit ?_ | refine Wp.ret ?_ | refine Wp.block ?_ | refine Wp.label ?_ | ((first | (first | refine Wp.sreg (fun K hK => ?_) | refine Wp.reg (fun K hK => ?_) | refine Wp.sdrw mixed (fun K hK => ?_) | refine Wp.drw mixed (fun K hK => ?_)) | refine Wp.condG (fun K hT hF => ?_)); (refine rO (And.intro @Option.isNone_none.{0} (@Option.isNone_some.{0})) ?_; try (with_reducible exact True.intro)); (first | (refine hK _ ?_; clear hK K) | (refine ⟨by kernel_rfl, hK _ ?_⟩; clear hK K) | (refine hT ?_; clear hT hF K) | (refine hF ?_; clear hT hF K))) | refine Wp.seq ?_))
      (refine rO0 ?_; try (with_reducible exact True.intro))
      exact .inl ⟨0, rfl, rfl⟩
  | cons f fs =>
    have hb : (fs.length + 1) * 32 ≤ 140737488355328 := by simp at hl; omega
    (refine FunA.of_body Tryd.func23 rfl rfl Tryd.ntmps23 Tryd.results23 (by simp) ?_)
    (repeat (first | refine Wp.skip ?_ | refine Wp.exit ?_ | refine Wp.ret ?_ | refine Wp.block ?_ | refine Wp.label ?_ | ((first | (first | refine Wp.sreg (fun K hK => ?_) | refine Wp.reg (fun K hK => ?_) | refine Wp.sdrw mixed (fun K hK => ?_) | refine Wp.drw mixed (fun K hK => ?_)) | refine Wp.condG (fun K hT hF => ?_)); (refine rO (hb) ?_; try (with_reducible exact True.intro)); (first | (refine hK _ ?_; clear hK K) | (refine ⟨by kernel_rfl, hK _ ?_⟩; clear hK K) | (refine hT ?_; clear hT hF K) | (refine hF ?_; clear hT hF K))) | refine Wp.seq ?_))
    (refine rO0 ?_; try (with_reducible exact True.intro))
    exact .inl ⟨0, rfl, rfl⟩
theorem ownBatch_fun (b : BatD) (hb : b.recs.length ≤ 100000) : Fun Tryd.prog 85 [.agg b.dv] (.agg b.dv) := by
  have c1 := (clone_Record (b.recs.map RecD.dv) (by simp; omega)).fun
  (refine Fun.of_body Tryd.func85 rfl rfl Tryd.ntmps85 Tryd.results85 (by simp) ?_)
  (refine gO (@BatD.dv.eq_1) ?_; try (with_reducible exact True.intro))
  (refine rO (@BatD.dv.eq_1) ?_; try (with_reducible exact True.intro))
abbrev batMsg : List UInt8 := [97, 32, 98, 97, 116, 99, 104]
theorem dataNo1_fun (s : FoldS) (e : EntD) (hp : OpOk s.p.opens) (hl : s.p.opens.length ≤ 1000) (hs : SmallL s.p.prods) (hb : e.b.recs.length ≤ 100000) (hc : (checkF s.p.prods e.b).2.2 ≠ 0 ∨ (checkF s.p.prods e.b).2.1 = true) :
    FunG Tryd.prog 53 [.c (.own 0 0), entV e] inK (ofH (inM s)) (imposV batMsg) inK (ofH (inM s)) := by
  have c1 := open_fun s.p e.b.pid (by omega)
  have c2 := impos_fun batMsg
  have c3 := check_fun10 s.p.prods e.b hs hb
  simp only [BatD.dv] at c3
  refine FunG.of_bodyH rfl rfl Tryd.func53 rfl rfl Tryd.ntmps53 Tryd.results53 (Nat.le_of_ble_eq_true rfl) (okG_in rfl rfl hp.pid hp.pid) ?_
  by_cases h1 : (checkF s.p.prods e.b).2.2 = 0
  · have h2 : (checkF s.p.prods e.b).2.1 = true := hc.resolve_left (fun h => h h1)
    have d1 : ((checkF s.p.prods e.b).2.2 != 0) = false := by simp [h1]
    (refine gO (And.intro @GRUN (And.intro @EntD.dv.eq_1 (@BatD.dv.eq_1))) ?_; try (with_reducible exact True.intro))
    refine Wp.reg (fun K hK => ?_)
    (refine rO (And.intro @GRUN (@EntD.dv.eq_1)) ?_; try (with_reducible exact True.intro))
    refine bcall_s c1 rfl (snap_arg hp (by (refine rO (And.intro @GRUN (And.intro @endB.eq_1 (@endB.eq_2))) ?_; try (with_reducible exact True.intro)))) ?_
    (refine rO (@GRUN) ?_; try (with_reducible exact True.intro))
    refine hK _ ?_
    clear hK K
    (refine gO (And.intro @GRUN (And.intro @EntD.dv.eq_1 (And.intro d1 (h2)))) ?_; try (with_reducible exact True.intro))
    refine bodyQG.ret ?_
    (refine rO (And.intro @GRUN (And.intro @endB.eq_1 (@endB.eq_2))) ?_; try (with_reducible exact True.intro))
  · have d1 : ((checkF s.p.prods e.b).2.2 != 0) = true := by simpa using h1
    (refine gO (And.intro @GRUN (And.intro @EntD.dv.eq_1 (@BatD.dv.eq_1))) ?_; try (with_reducible exact True.intro))
    refine Wp.reg (fun K hK => ?_)
    (refine rO (And.intro @GRUN (@EntD.dv.eq_1)) ?_; try (with_reducible exact True.intro))
    refine bcall_s c1 rfl (snap_arg hp (by (refine rO (And.intro @GRUN (And.intro @endB.eq_1 (@endB.eq_2))) ?_; try (with_reducible exact True.intro)))) ?_
    (refine rO (@GRUN) ?_; try (with_reducible exact True.intro))
    refine hK _ ?_
    clear hK K
    (refine gO (And.intro @GRUN (And.intro @EntD.dv.eq_1 (d1))) ?_; try (with_reducible exact True.intro))
    refine bodyQG.ret ?_
    (refine rO (And.intro @GRUN (And.intro @endB.eq_1 (@endB.eq_2))) ?_; try (with_reducible exact True.intro))
end Go.Proofs.YtafipkbffboebaaDoor
namespace Go.Proofs.YtafipkbffboebaaDoor
open Go Go.RowKit
set_option maxHeartbeats 4000000
set_option maxRecDepth 100000
set_option linter.unusedVariables false
set_option linter.unusedSimpArgs false
theorem openB_spec {l : List OpenD} {pid : Int} (h : openB l pid = true) : ∃ h : openI l pid < l.length, l[openI l pid].pid = pid := by
  unfold openB at h
  cases hq : l[openI l pid]? with
  | none => rw [hq] at h; cases h
  | some o =>
    rw [hq] at h
    obtain ⟨hlt, he⟩ := List.getElem?_eq_some_iff.1 hq
    exact ⟨hlt, by rw [he]; simpa using h⟩
theorem opensC_cells (vt : Nat → Nat) (l : List OpenD) (i : Nat) (hi : i < l.length) : (opensC vt l)[i * 3]? = some (.d (int l[i].pid)) ∧ (opensC vt l)[i * 3 + 1]? = some (.d (int l[i].epoch)) ∧ (opensC vt l)[i * 3 + 2]? = some (.mt (10 + l[i].pid.toNat) (vt l[i].pid.toNat)) := by
  have h := opensC_drop vt l i
  rw [List.drop_eq_getElem_cons hi] at h
  have e : ∀ k, (opensC vt l)[i * 3 + k]? = (opensC vt (l[i] :: l.drop (i + 1)))[k]? := fun k => by rw [← h, List.getElem?_drop]
  exact ⟨e 0, e 1, e 2⟩
theorem batsC_len (l : List BatD) : (batsC l).length = l.length * 5 := by
  unfold batsC
  rw [List.length_map, flat_len (sz := 5) (by intro x hx; obtain ⟨r, _, rfl⟩ := List.mem_map.1 hx; rfl), List.length_map]
theorem dataNo2_fun (s : FoldS) (e : EntD) (hp : OpOk s.p.opens) (hl : s.p.opens.length ≤ 1000) (hs : SmallL s.p.prods) (hb : e.b.recs.length ≤ 100000) (hc : (checkF s.p.prods e.b).2.2 = 0 ∧ (checkF s.p.prods e.b).2.1 = false)
    (o : OpenD) (hi : s.p.opens[openI s.p.opens e.b.pid]? = some o) (hpid : o.pid = e.b.pid) (hno : e.b.txn = false ∨ o.epoch ≠ e.b.epoch ∨ 8 ≤ o.bats.length) (hbl : o.bats.length ≤ 1000) :
    FunG Tryd.prog 53 [.c (.own 0 0), entV e] inK (ofH (inM s)) (imposV batMsg) inK (ofH (inM s)) := by
  obtain ⟨hlt, hoe⟩ := List.getElem?_eq_some_iff.1 hi
  have hoB : openB s.p.opens e.b.pid = true := by unfold openB; rw [hi]; simpa using hpid
  have c1 := open_fun s.p e.b.pid (by omega)
  have c2 := impos_fun batMsg
  have c3 := check_fun10 s.p.prods e.b hs hb
  obtain ⟨hx0, hx1, hx2⟩ := opensC_cells s.vt s.p.opens _ hlt
  rw [hoe] at hx0 hx1 hx2
  have hmem : o ∈ s.p.opens := hoe ▸ List.getElem_mem hlt
  have hp8 := hp.pid o hmem
  have hbo := batsOf_mem hp hmem
  rw [hoB] at c1
  have hol := opensC_len s.vt s.p.opens
  generalize openI s.p.opens e.b.pid = i at *
  obtain ⟨q, hq⟩ : ∃ q, q = o.pid.toNat := ⟨_, rfl⟩
  rw [← hq] at hx2 hbo
  have hq1 : 1 ≤ q := by omega
  have hq8 : q ≤ 8 := by omega
  have hat := inY_at s s [] hq1 hq8
  rw [List.append_nil] at hat
  have hle : i * 3 + 3 ≤ (opensC s.vt s.p.opens).length := by omega
  simp only [BatD.dv] at c3
  have d1 : ((checkF s.p.prods e.b).2.2 != 0) = false := by simp [hc.1]
  have d2 := hc.2
  refine FunG.of_bodyH rfl rfl Tryd.func53 rfl rfl Tryd.ntmps53 Tryd.results53 (Nat.le_of_ble_eq_true rfl) (okG_in rfl rfl hp.pid hp.pid) ?_
  (refine gO (And.intro @GRUN (And.intro @EntD.dv.eq_1 (@BatD.dv.eq_1))) ?_; try (with_reducible exact True.intro))
  refine Wp.reg (fun K hK => ?_)
  (refine rO (And.intro @GRUN (@EntD.dv.eq_1)) ?_; try (with_reducible exact True.intro))
  refine bcall_s c1 rfl (snap_arg hp (by (refine rO (And.intro @GRUN (And.intro @endB.eq_1 (@endB.eq_2))) ?_; try (with_reducible exact True.intro)))) ?_
  (refine rO (@GRUN) ?_; try (with_reducible exact True.intro))
  refine hK _ ?_
  clear hK K
  (refine gO (And.intro @GRUN (And.intro @EntD.dv.eq_1 (And.intro d1 (d2)))) ?_; try (with_reducible exact True.intro))
  by_cases h1 : e.b.txn = false
  · (refine gO (And.intro @GRUN (h1)) ?_; try (with_reducible exact True.intro))
    refine bodyQG.ret ?_
    (refine rO (And.intro @GRUN (And.intro @endB.eq_1 (@endB.eq_2))) ?_; try (with_reducible exact True.intro))
  have h1 : e.b.txn = true := by simpa using h1
  (refine gO (And.intro @GRUN (And.intro h1 (And.intro hle (hx1)))) ?_; try (with_reducible exact True.intro))
  by_cases h2 : o.epoch = e.b.epoch
  · have d3 : (o.epoch != e.b.epoch) = false := by simp [h2]
    have h3 : 8 ≤ o.bats.length := by rcases hno with h | h | h <;> first | exact h | simp_all
    (refine gO (And.intro @GRUN (d3)) ?_; try (with_reducible exact True.intro))
    have hbl5 : ∀ q', batsOf s.p.opens q' = o.bats → (batsC (batsOf s.p.opens q')).length / 5 = o.bats.length := fun q' h => by rw [h, batsC_len, Nat.mul_div_cancel _ (by decide)]
    have hbl6 := hbl5 q hbo
    have d4 : decide (8 ≤ (o.bats.length : Int)) = true := decide_eq_true (by omega)
    have hq2 : q = 1 ∨ q = 2 ∨ q = 3 ∨ q = 4 ∨ q = 5 ∨ q = 6 ∨ q = 7 ∨ q = 8 := by omega
    clear hat hq
    rcases hq2 with rfl | rfl | rfl | rfl | rfl | rfl | rfl | rfl <;> ((refine gO (And.intro @GRUN (And.intro hle (And.intro hx2 (And.intro hbl6 (d4))))) ?_; try (with_reducible exact True.intro)); refine bodyQG.ret ?_; (refine rO (And.intro @GRUN (And.intro @endB.eq_1 (@endB.eq_2))) ?_; try (with_reducible exact True.intro)))
  · have d3 : (o.epoch != e.b.epoch) = true := by simpa using h2
    (refine gO (And.intro @GRUN (d3)) ?_; try (with_reducible exact True.intro))
    refine bodyQG.ret ?_
    (refine rO (And.intro @GRUN (And.intro @endB.eq_1 (@endB.eq_2))) ?_; try (with_reducible exact True.intro))
end Go.Proofs.YtafipkbffboebaaDoor
namespace Go.Proofs.YtafipkbffboebaaDoor
open Go Go.RowKit
set_option maxHeartbeats 4000000
set_option maxRecDepth 100000
set_option linter.unusedVariables false
set_option linter.unusedSimpArgs false
theorem dataNo3_fun (s : FoldS) (e : EntD) (hp : OpOk s.p.opens) (hl : s.p.opens.length ≤ 1000) (hs : SmallL s.p.prods) (hb : e.b.recs.length ≤ 100000) (hc : (checkF s.p.prods e.b).2.2 = 0 ∧ (checkF s.p.prods e.b).2.1 = false)
    (ho : openB s.p.opens e.b.pid = false) (ht : e.b.txn = false) (hf : 1048576 < s.p.fin + (e.b.recs.length : Int)) :
    FunG Tryd.prog 53 [.c (.own 0 0), entV e] inK (ofH (inM s)) (imposV batMsg) inK (ofH (inM s)) := by
  have c1 := open_fun s.p e.b.pid (by omega)
  have c2 := impos_fun batMsg
  have c3 := check_fun10 s.p.prods e.b hs hb
  have c4 := fits_fun s.p (e.b.recs.length : Nat)
  rw [show IntKind.i64.wrap (1048576 - (e.b.recs.length : Int)) = 1048576 - (e.b.recs.length : Int) from wrap_i64 (by omega), show decide (s.p.fin ≤ 1048576 - (e.b.recs.length : Int)) = false from decide_eq_false (by omega)] at c4
  rw [ho] at c1
  simp only [BatD.dv, ht] at c3
  have d1 : ((checkF s.p.prods e.b).2.2 != 0) = false := by simp [hc.1]
  have d2 := hc.2
  refine FunG.of_bodyH rfl rfl Tryd.func53 rfl rfl Tryd.ntmps53 Tryd.results53 (Nat.le_of_ble_eq_true rfl) (okG_in rfl rfl hp.pid hp.pid) ?_
  (refine gO (And.intro @GRUN (And.intro @EntD.dv.eq_1 (And.intro @BatD.dv.eq_1 (ht)))) ?_; try (with_reducible exact True.intro))
  refine Wp.reg (fun K hK => ?_)
  (refine rO (And.intro @GRUN (@EntD.dv.eq_1)) ?_; try (with_reducible exact True.intro))
  refine bcall_s c1 rfl (snap_arg hp (by (refine rO (And.intro @GRUN (And.intro @endB.eq_1 (@endB.eq_2))) ?_; try (with_reducible exact True.intro)))) ?_
  (refine rO (@GRUN) ?_; try (with_reducible exact True.intro))
  refine hK _ ?_
  clear hK K
  (refine gO (And.intro @GRUN (And.intro @EntD.dv.eq_1 (And.intro d1 (d2)))) ?_; try (with_reducible exact True.intro))
  refine Wp.reg (fun K hK => ?_)
  (refine rO (And.intro @GRUN (And.intro @EntD.dv.eq_1 (@List.length_map.{0,0}))) ?_; try (with_reducible exact True.intro))
  refine bcall_s c4 rfl (snap_arg hp (by (refine rO (And.intro @GRUN (And.intro @endB.eq_1 (@endB.eq_2))) ?_; try (with_reducible exact True.intro)))) ?_
  (refine rO (@GRUN) ?_; try (with_reducible exact True.intro))
  refine hK _ ?_
  clear hK K
  (refine gO (@GRUN) ?_; try (with_reducible exact True.intro))
  refine bodyQG.ret ?_
  (refine rO (And.intro @GRUN (And.intro @endB.eq_1 (@endB.eq_2))) ?_; try (with_reducible exact True.intro))
theorem CV_ren_id (c : CV) : CV.ren (fun x => x) c = c := by
  have hc : ∀ l : List Cap, l.map (Cap.ren fun x => x) = l := fun l => by
    rw [show (Cap.ren fun x => x) = id from funext fun c => by cases c <;> rfl, List.map_id]
  cases c <;> simp [CV.ren, hc]
theorem CVs_ren_id (l : List CV) : l.map (CV.ren fun x => x) = l := by
  rw [show (CV.ren fun x => x) = id from funext CV_ren_id, List.map_id]
theorem SV_ren_id (c : SV) : SV.ren (fun x => x) c = c := by
  cases c
  · simp [SV.ren, CV_ren_id]
  · simp [SV.ren, CVs_ren_id]
theorem HE_ren_id (h : HE) : HE.ren (fun x => x) h = h := by
  cases h <;> simp [HE.ren, CVs_ren_id]
def withP (s : FoldS) (l : List ProdD) : FoldS := ⟨{ s.p with prods := l }, s.vr, s.vo, s.vt⟩
theorem dataPut_fun (s : FoldS) (e : EntD) (np : List ProdD) (hp : OpOk s.p.opens) (hl : s.p.opens.length ≤ 1000) (hs : SmallL s.p.prods) (hb : e.b.recs.length ≤ 100000) (hc : (checkF s.p.prods e.b).2.2 = 0 ∧ (checkF s.p.prods e.b).2.1 = false)
    (ho : openB s.p.opens e.b.pid = false) (ht : e.b.txn = false) (hf : -1000000000 ≤ s.p.fin ∧ s.p.fin + (e.b.recs.length : Int) ≤ 1048576) (hr : s.p.rows.length ≤ 1000000) (hk : takeF s.p.prods e.b s.p.fin = (np, 0)) :
    FunG Tryd.prog 53 [.c (.own 0 0), entV e] inK (ofH (inM s)) nilE inK (ofH (inM (putS (withP s np) e.b))) := by
  have c1 := open_fun s.p e.b.pid (by omega)
  have c3 := check_fun10 s.p.prods e.b hs hb
  have c4 := fits_fun s.p (e.b.recs.length : Nat)
  rw [show IntKind.i64.wrap (1048576 - (e.b.recs.length : Int)) = 1048576 - (e.b.recs.length : Int) from wrap_i64 (by omega), show decide (s.p.fin ≤ 1048576 - (e.b.recs.length : Int)) = true from decide_eq_true (by omega)] at c4
  have c5 := take_fun10 s.p.prods e.b s.p.fin hs hb
  rw [hk] at c5
  have c6 := put_fun12 (withP s np) e.b hp.pid (by show _ ≤ s.p.fin ∧ s.p.fin ≤ _; omega) hb hr
  rw [ho] at c1
  have hbV : batV e.b = .agg [.d (int e.b.pid), .d (int e.b.epoch), .d (int e.b.seq), .d (boo false), .d (.lst 2 (e.b.recs.map RecD.dv))] := by
    show SV.agg (e.b.dv.map CV.d) = _
    simp only [BatD.dv, ht, List.map_cons, List.map_nil]
  simp only [BatD.dv, ht] at c3 c5
  have d1 : ((checkF s.p.prods e.b).2.2 != 0) = false := by simp [hc.1]
  have d2 := hc.2
  refine FunG.of_bodyH rfl rfl Tryd.func53 rfl rfl Tryd.ntmps53 Tryd.results53 (Nat.le_of_ble_eq_true rfl) (okG_in rfl rfl hp.pid hp.pid) ?_
  (refine gO (And.intro @GRUN (And.intro @EntD.dv.eq_1 (And.intro @BatD.dv.eq_1 (ht)))) ?_; try (with_reducible exact True.intro))
  refine Wp.reg (fun K hK => ?_)
  (refine rO (And.intro @GRUN (@EntD.dv.eq_1)) ?_; try (with_reducible exact True.intro))
  refine bcall_s c1 rfl (snap_arg hp (by (refine rO (And.intro @GRUN (And.intro @endB.eq_1 (@endB.eq_2))) ?_; try (with_reducible exact True.intro)))) ?_
  (refine rO (@GRUN) ?_; try (with_reducible exact True.intro))
  refine hK _ ?_
  clear hK K
  (refine gO (And.intro @GRUN (And.intro @EntD.dv.eq_1 (And.intro d1 (d2)))) ?_; try (with_reducible exact True.intro))
  refine Wp.reg (fun K hK => ?_)
  (refine rO (And.intro @GRUN (And.intro @EntD.dv.eq_1 (@List.length_map.{0,0}))) ?_; try (with_reducible exact True.intro))
  refine bcall_s c4 rfl (snap_arg hp (by (refine rO (And.intro @GRUN (And.intro @endB.eq_1 (@endB.eq_2))) ?_; try (with_reducible exact True.intro)))) ?_
  (refine rO (@GRUN) ?_; try (with_reducible exact True.intro))
  refine hK _ ?_
  clear hK K
  (refine gO (@GRUN) ?_; try (with_reducible exact True.intro))
  (first | refine Wp.sregG ?_ | refine Wp.regG ?_ | (refine Wp.seq ?_; first | refine Wp.sregG ?_ | refine Wp.regG ?_))
  (refine GRun.at 2 (fun K hK => ?_); (refine rO (@GRUN) ?_; try (with_reducible exact True.intro)); refine hK _ ?_; clear hK K)
  (refine GRun.call (c6) [] 1002 rfl rfl ?_ ?_; (focus ((refine rOs (And.intro @HEREN (And.intro @GRUN (And.intro @HE_ren_id (And.intro @withP.eq_1 (hbV))))) ?_; try (with_reducible exact True.intro)); done)))
  (refine GRun.done (fun K hK => ?_); (refine rOt (And.intro @GRUN (And.intro @putB.eq_1 (And.intro @putB.eq_2 (And.intro @HE_ren_id (@SV_ren_id))))) ?_; try (with_reducible exact True.intro)); refine hK _ ?_; clear hK K)
  (refine gO (@GRUN) ?_; try (with_reducible exact True.intro))
  refine bodyQG.ret ?_
  (refine rO (And.intro @GRUN (And.intro @endB.eq_1 (@endB.eq_2))) ?_; try (with_reducible exact True.intro))
end Go.Proofs.YtafipkbffboebaaDoor
namespace Go.Proofs.YtafipkbffboebaaDoor
open Go Go.RowKit
set_option maxHeartbeats 8000000
set_option maxRecDepth 100000
set_option linter.unusedVariables false
set_option linter.unusedSimpArgs false
def FoldS.addb (s : FoldS) (i : Nat) (o : OpenD) (b : BatD) : FoldS :=
  { s with p := { s.p with opens := s.p.opens.set i ⟨o.pid, o.epoch, o.bats ++ [b]⟩ }, vt := fun q => if q = o.pid.toNat then s.vt q + 1 else s.vt q }
theorem set_split {l : List OpenD} {i : Nat} (hi : i < l.length) (x : OpenD) : l.set i x = l.take i ++ x :: l.drop (i + 1) := by
  rw [List.set_eq_take_append_cons_drop, if_pos hi]
theorem addb_bats (s : FoldS) {i : Nat} {o : OpenD} (b : BatD) (hok : OpOk s.p.opens) (hi : s.p.opens[i]? = some o) (q' : Nat) : batsOf (s.addb i o b).p.opens q' = if q' = o.pid.toNat then o.bats ++ [b] else batsOf s.p.opens q' := by
  obtain ⟨hlt, hoe⟩ := List.getElem?_eq_some_iff.1 hi
  have hmem : o ∈ s.p.opens := hoe ▸ List.getElem_mem hlt
  have hp := hok.pid o hmem
  have hno := rise_apart hok.rise hlt
  rw [hoe] at hno
  show batsOf (s.p.opens.set i _) q' = _
  rw [set_split hlt]
  have hsp : s.p.opens = s.p.opens.take i ++ o :: s.p.opens.drop (i + 1) := by rw [← hoe]; exact split_at hlt
  split
  · rename_i h
    subst h
    have hq : ((o.pid.toNat : Nat) : Int) = o.pid := by omega
    unfold batsOf
    rw [List.find?_append, List.find?_eq_none.2 (fun x hx => by have := hno x (List.mem_append.2 (.inl hx)); simp [hq]; omega), List.find?_cons_of_pos (by simp [hq])]
    rfl
  · rename_i h
    rw [batsOf_skip (by show o.pid ≠ _; omega)]
    conv => rhs; rw [hsp]
    rw [batsOf_skip (by omega)]
theorem addb_opens (s : FoldS) {i : Nat} {o : OpenD} (b : BatD) (hok : OpOk s.p.opens) (hi : s.p.opens[i]? = some o) : opensC (s.addb i o b).vt (s.addb i o b).p.opens = (opensC s.vt s.p.opens).take (i * 3 + 2) ++ [.mt (10 + o.pid.toNat) (s.vt o.pid.toNat + 1)] ++ (opensC s.vt s.p.opens).drop (i * 3 + 3) := by
  obtain ⟨hlt, hoe⟩ := List.getElem?_eq_some_iff.1 hi
  have hno := rise_apart hok.rise hlt
  rw [hoe] at hno
  have hvt : ∀ x ∈ s.p.opens.take i ++ s.p.opens.drop (i + 1), (s.addb i o b).vt x.pid.toNat = s.vt x.pid.toNat := fun x hx => by
    have h1 := hno x hx
    have h2 := hok.pid.erase i x hx
    have h3 := hok.pid o (hoe ▸ List.getElem_mem hlt)
    show (if _ then _ else _) = _
    rw [if_neg (by omega)]
  show opensC (s.addb i o b).vt (s.p.opens.set i _) = _
  rw [set_split hlt, show s.p.opens.take i ++ (⟨o.pid, o.epoch, o.bats ++ [b]⟩ : OpenD) :: s.p.opens.drop (i + 1) = s.p.opens.take i ++ [⟨o.pid, o.epoch, o.bats ++ [b]⟩] ++ s.p.opens.drop (i + 1) by simp, opensC_app, opensC_app, opensC_congr _ (fun x hx => hvt x (List.mem_append.2 (.inl hx))), opensC_congr _ (fun x hx => hvt x (List.mem_append.2 (.inr hx)))]
  have e1 : (opensC s.vt s.p.opens).take (i * 3 + 2) = opensC s.vt (s.p.opens.take i) ++ [.d (int o.pid), .d (int o.epoch)] := by
    have h := opensC_drop s.vt s.p.opens i
    rw [List.drop_eq_getElem_cons hlt, hoe] at h
    rw [List.take_add, opensC_take, h]
    rfl
  rw [e1, show i * 3 + 3 = (i + 1) * 3 by omega, opensC_drop]
  simp [opensC, FoldS.addb]
theorem batsC_app (a : List BatD) (b : BatD) : batsC (a ++ [b]) = batsC a ++ b.dv.map CV.d := by simp [batsC]
theorem dataAdd_fun (s : FoldS) (e : EntD) (np : List ProdD) (hp : OpOk s.p.opens) (hl : s.p.opens.length ≤ 1000) (hs : SmallL s.p.prods) (hb : e.b.recs.length ≤ 100000) (hc : (checkF s.p.prods e.b).2.2 = 0 ∧ (checkF s.p.prods e.b).2.1 = false)
    (o : OpenD) (hi : s.p.opens[openI s.p.opens e.b.pid]? = some o) (hpid : o.pid = e.b.pid) (ht : e.b.txn = true) (hep : o.epoch = e.b.epoch) (hbl : o.bats.length < 8) (hk : takeF s.p.prods e.b (-1) = (np, 0)) :
    FunG Tryd.prog 53 [.c (.own 0 0), entV e] inK (ofH (inM s)) nilE inK (ofH (inM ((withP s np).addb (openI s.p.opens e.b.pid) o e.b))) := by
  obtain ⟨hlt, hoe⟩ := List.getElem?_eq_some_iff.1 hi
  have hoB : openB s.p.opens e.b.pid = true := by unfold openB; rw [hi]; simpa using hpid
  have c1 := open_fun s.p e.b.pid (by omega)
  have c3 := check_fun10 s.p.prods e.b hs hb
  have c5 := take_fun10 s.p.prods e.b (-1) hs hb
  have c7 := ownBatch_fun e.b hb
  rw [hk] at c5
  obtain ⟨hx0, hx1, hx2⟩ := opensC_cells s.vt s.p.opens _ hlt
  rw [hoe] at hx0 hx1 hx2
  have hmem : o ∈ s.p.opens := hoe ▸ List.getElem_mem hlt
  have hp8 := hp.pid o hmem
  have hbo := batsOf_mem hp hmem
  rw [hoB] at c1
  have hol := opensC_len s.vt s.p.opens
  have f1 := addb_bats (withP s np) e.b hp hi
  have f2 := addb_opens (withP s np) e.b hp hi
  have f3 : ∀ q', ((withP s np).addb (openI s.p.opens e.b.pid) o e.b).vt q' = if q' = o.pid.toNat then s.vt q' + 1 else s.vt q' := fun _ => rfl
  have f4 : ((withP s np).addb (openI s.p.opens e.b.pid) o e.b).vo = s.vo := rfl
  have f5 : ((withP s np).addb (openI s.p.opens e.b.pid) o e.b).vr = s.vr := rfl
  have f6 : ((withP s np).addb (openI s.p.opens e.b.pid) o e.b).p.start = s.p.start := rfl
  have f7 : ((withP s np).addb (openI s.p.opens e.b.pid) o e.b).p.fin = s.p.fin := rfl
  have f8 : ((withP s np).addb (openI s.p.opens e.b.pid) o e.b).p.rows = s.p.rows := rfl
  have f9 : ((withP s np).addb (openI s.p.opens e.b.pid) o e.b).p.prods = np := rfl
  have f10 : PidOk ((withP s np).addb (openI s.p.opens e.b.pid) o e.b).p.opens := fun x hx => by
    rcases List.mem_or_eq_of_mem_set hx with h | rfl
    · exact hp.pid x h
    · exact hp8
  have hbb : ((batsC (batsOf s.p.opens o.pid.toNat)).length + 1) * 56 ≤ 140737488355328 := by rw [hbo, batsC_len]; omega
  generalize (withP s np).addb (openI s.p.opens e.b.pid) o e.b = t at *
  generalize openI s.p.opens e.b.pid = i at *
  obtain ⟨q, hq⟩ : ∃ q, q = o.pid.toNat := ⟨_, rfl⟩
  rw [← hq] at hx2 hbo f2 hbb
  simp only [← hq] at f1 f3
  have hq1 : 1 ≤ q := by omega
  have hq8 : q ≤ 8 := by omega
  have hle : i * 3 + 3 ≤ (opensC s.vt s.p.opens).length := by omega
  have hle2 : i * 3 + 2 + 1 ≤ (opensC s.vt s.p.opens).length := by omega
  simp only [BatD.dv, ht] at c3 c5 c7
  have d1 : ((checkF s.p.prods e.b).2.2 != 0) = false := by simp [hc.1]
  have d2 := hc.2
  have d3 : (o.epoch != e.b.epoch) = false := by simp [hep]
  have d4 : decide (8 ≤ (o.bats.length : Int)) = false := decide_eq_false (by omega)
  have hbl6 : (batsC (batsOf s.p.opens q)).length / 5 = o.bats.length := by rw [hbo, batsC_len, Nat.mul_div_cancel _ (by decide)]
  have f11 : batsC (o.bats ++ [e.b]) = batsC (batsOf s.p.opens q) ++ [.d (int e.b.pid), .d (int e.b.epoch), .d (int e.b.seq), .d (boo true), .d (.lst 2 (e.b.recs.map RecD.dv))] := by
    rw [batsC_app, hbo]; simp only [BatD.dv, ht, List.map_cons, List.map_nil]
  have f2' : (opensC s.vt s.p.opens).take (i * 3 + 2) ++ [.mt (10 + q) (s.vt q + 1)] ++ (opensC s.vt s.p.opens).drop (i * 3 + 3) = opensC t.vt t.p.opens := f2.symm
  clear f2 hx0 hol hmem hp8 hoe hlt hi hoB hk hc
  have hq2 : q = 1 ∨ q = 2 ∨ q = 3 ∨ q = 4 ∨ q = 5 ∨ q = 6 ∨ q = 7 ∨ q = 8 := by omega
  clear hq hq1 hq8
  refine FunG.of_bodyH rfl rfl Tryd.func53 rfl rfl Tryd.ntmps53 Tryd.results53 (Nat.le_of_ble_eq_true rfl) (okG_in rfl rfl hp.pid f10) ?_
  (refine gO (And.intro @GRUN (And.intro @EntD.dv.eq_1 (And.intro @BatD.dv.eq_1 (ht)))) ?_; try (with_reducible exact True.intro))
  refine Wp.reg (fun K hK => ?_)
  (refine rO (And.intro @GRUN (@EntD.dv.eq_1)) ?_; try (with_reducible exact True.intro))
  refine bcall_s c1 rfl (snap_arg hp (by (refine rO (And.intro @GRUN (And.intro @endB.eq_1 (@endB.eq_2))) ?_; try (with_reducible exact True.intro)))) ?_
  (refine rO (@GRUN) ?_; try (with_reducible exact True.intro))
  refine hK _ ?_
  clear hK K
  (refine gO (And.intro @GRUN (And.intro @EntD.dv.eq_1 (And.intro d1 (And.intro d2 (And.intro hle (And.intro hx1 (d3))))))) ?_; try (with_reducible exact True.intro))
  rcases hq2 with rfl | rfl | rfl | rfl | rfl | rfl | rfl | rfl <;> ((refine gO (And.intro @GRUN (And.intro hle (And.intro hx2 (And.intro hbl6 (And.intro d4 (And.intro hbb (And.intro hle2 (f2')))))))) ?_; try (with_reducible exact True.intro)); refine bodyQG.ret ?_; (refine rO (And.intro @GRUN (And.intro @endB.eq_1 (And.intro @endB.eq_2 (And.intro f1 (And.intro f3 (And.intro f4 (And.intro f5 (And.intro f6 (And.intro f7 (And.intro f8 (And.intro f9 (And.intro f11 (And.intro @withP.eq_1 (And.intro @List.flatten_cons.{0} (And.intro @List.flatten_nil.{0} (And.intro @List.map_cons.{0,0} (And.intro @List.map_nil.{0,0} (@List.append_nil.{0})))))))))))))))))) ?_; try (with_reducible exact True.intro)))
end Go.Proofs.YtafipkbffboebaaDoor
namespace Go.Proofs.YtafipkbffboebaaDoor
open Go Go.RowKit
set_option maxHeartbeats 8000000
set_option maxRecDepth 100000
set_option linter.unusedVariables false
set_option linter.unusedSimpArgs false
theorem openI_ge {l : List OpenD} {pid : Int} (h : openI l pid < l.length) : pid ≤ l[openI l pid].pid := by
  have := List.findIdx_getElem (p := fun x : OpenD => decide (pid ≤ x.pid)) (xs := l) (w := h)
  exact of_decide_eq_true this
theorem openI_lt {l : List OpenD} {pid : Int} {j : Nat} (h : j < openI l pid) : ∃ hj : j < l.length, l[j].pid < pid := by
  have hle := openI_le l pid
  have hj : j < l.length := by omega
  have := List.not_of_lt_findIdx (p := fun x : OpenD => decide (pid ≤ x.pid)) (xs := l) (i := j) h
  exact ⟨hj, by simpa using this⟩
theorem openB_none {l : List OpenD} (hr : l.Pairwise (fun a b => a.pid < b.pid)) {pid : Int} (h : openB l pid = false) : ∀ o ∈ l, o.pid ≠ pid := by
  intro o ho he
  obtain ⟨j, hj, rfl⟩ := List.getElem_of_mem ho
  rcases Nat.lt_trichotomy j (openI l pid) with hlt | heq | hgt
  · obtain ⟨_, h1⟩ := openI_lt hlt; omega
  · have : openB l pid = true := by
      unfold openB
      rw [← heq, List.getElem?_eq_getElem hj]; simpa using he
    rw [h] at this; cases this
  · have hi : openI l pid < l.length := by omega
    have h1 := openI_ge hi
    have h2 := List.pairwise_iff_getElem.1 hr (openI l pid) j hi hj hgt
    omega
theorem OpOk.ins {l : List OpenD} (h : OpOk l) {pid : Int} (hb : openB l pid = false) (hp : 1 ≤ pid ∧ pid ≤ 8) (ep : Int) (bs : List BatD) : OpOk (l.take (openI l pid) ++ ⟨pid, ep, bs⟩ :: l.drop (openI l pid)) := by
  refine ⟨h.pid.ins _ hp, ?_⟩
  have hr := h.rise
  have hno := openB_none hr hb
  have hr2 := hr
  rw [← List.take_append_drop (openI l pid) l, List.pairwise_append] at hr2
  obtain ⟨h1, h2, h3⟩ := hr2
  rw [List.pairwise_append]
  refine ⟨h1, List.pairwise_cons.2 ⟨fun x hx => ?_, h2⟩, fun a ha x hx => ?_⟩
  · show pid < x.pid
    obtain ⟨k, hk, rfl⟩ := List.getElem_of_mem hx
    rw [List.getElem_drop]
    have hk' : openI l pid + k < l.length := by rw [List.length_drop] at hk; omega
    have hi : openI l pid < l.length := by omega
    have g1 := openI_ge hi
    have g2 := hno _ (List.getElem_mem hi)
    rcases Nat.eq_zero_or_pos k with rfl | h0
    · show pid < l[openI l pid + 0].pid
      simp only [Nat.add_zero]; omega
    · have := List.pairwise_iff_getElem.1 hr (openI l pid) (openI l pid + k) hi hk' (by omega)
      omega
  · obtain ⟨k, hk, rfl⟩ := List.mem_take_iff_getElem.1 ha
    obtain ⟨hj, g1⟩ := openI_lt (l := l) (pid := pid) (j := k) (by omega)
    rcases List.mem_cons.1 hx with rfl | hx
    · exact g1
    · exact h3 _ ha x hx
theorem esize_opens : esize Tryd.prog 43 = some (24, 3, 40, [.int .i64 0, .int .i64 0, .slice none 0 0]) := by (refine rO0 ?_; try (with_reducible exact True.intro))
theorem dataIns_fun (s : FoldS) (e : EntD) (np : List ProdD) (hp : OpOk s.p.opens) (hl : s.p.opens.length ≤ 1000) (hs : SmallL s.p.prods) (hb : e.b.recs.length ≤ 100000) (hc : (checkF s.p.prods e.b).2.2 = 0 ∧ (checkF s.p.prods e.b).2.1 = false)
    (ho : openB s.p.opens e.b.pid = false) (hpid : 1 ≤ e.b.pid ∧ e.b.pid ≤ 8) (ht : e.b.txn = true) (hk : takeF s.p.prods e.b (-1) = (np, 0)) :
    FunG Tryd.prog 53 [.c (.own 0 0), entV e] inK (ofH (inM s)) nilE inK (ofH (inM (((withP s np).ins (openI s.p.opens e.b.pid) e.b.pid e.b.epoch).addb (openI s.p.opens e.b.pid) ⟨e.b.pid, e.b.epoch, []⟩ e.b))) := by
  have hno := openB_none hp.rise ho
  have hile := openI_le s.p.opens e.b.pid
  have c1 := open_fun s.p e.b.pid (by omega)
  have c3 := check_fun10 s.p.prods e.b hs hb
  have c5 := take_fun10 s.p.prods e.b (-1) hs hb
  have c7 := ownBatch_fun e.b hb
  have c8 := insert_fun (withP s np) (openI s.p.opens e.b.pid) e.b.pid e.b.epoch hp.pid hpid hno hile hl
  have hokt : OpOk ((withP s np).ins (openI s.p.opens e.b.pid) e.b.pid e.b.epoch).p.opens := hp.ins ho hpid e.b.epoch []
  have hti : ((withP s np).ins (openI s.p.opens e.b.pid) e.b.pid e.b.epoch).p.opens[openI s.p.opens e.b.pid]? = some ⟨e.b.pid, e.b.epoch, []⟩ := by
    show (s.p.opens.take _ ++ _ :: s.p.opens.drop _)[_]? = _
    rw [List.getElem?_append_right (by rw [List.length_take]; omega), List.length_take, Nat.min_eq_left hile, Nat.sub_self]; rfl
  rw [hk] at c5
  rw [ho] at c1
  have g4 : ((withP s np).ins (openI s.p.opens e.b.pid) e.b.pid e.b.epoch).vo = s.vo + 1 := rfl
  have g5 : ((withP s np).ins (openI s.p.opens e.b.pid) e.b.pid e.b.epoch).vr = s.vr := rfl
  have g8 : ((withP s np).ins (openI s.p.opens e.b.pid) e.b.pid e.b.epoch).p = { (withP s np).p with opens := ((withP s np).ins (openI s.p.opens e.b.pid) e.b.pid e.b.epoch).p.opens } := rfl
  generalize (withP s np).ins (openI s.p.opens e.b.pid) e.b.pid e.b.epoch = t1 at *
  obtain ⟨hlt, hoe⟩ := List.getElem?_eq_some_iff.1 hti
  obtain ⟨hx0, hx1, hx2⟩ := opensC_cells t1.vt t1.p.opens _ hlt
  rw [hoe] at hx0 hx1 hx2
  have hol := opensC_len t1.vt t1.p.opens
  have hbo := batsOf_mem hokt (hoe ▸ List.getElem_mem hlt)
  have f1 := addb_bats t1 e.b hokt hti
  have f2 := addb_opens t1 e.b hokt hti
  have f3 : ∀ q', (t1.addb (openI s.p.opens e.b.pid) ⟨e.b.pid, e.b.epoch, []⟩ e.b).vt q' = if q' = e.b.pid.toNat then t1.vt q' + 1 else t1.vt q' := fun _ => rfl
  have f4 : (t1.addb (openI s.p.opens e.b.pid) ⟨e.b.pid, e.b.epoch, []⟩ e.b).vo = s.vo + 1 := g4
  have f5 : (t1.addb (openI s.p.opens e.b.pid) ⟨e.b.pid, e.b.epoch, []⟩ e.b).vr = s.vr := g5
  have f6 : (t1.addb (openI s.p.opens e.b.pid) ⟨e.b.pid, e.b.epoch, []⟩ e.b).p.start = s.p.start := by show t1.p.start = _; rw [g8]; rfl
  have f7 : (t1.addb (openI s.p.opens e.b.pid) ⟨e.b.pid, e.b.epoch, []⟩ e.b).p.fin = s.p.fin := by show t1.p.fin = _; rw [g8]; rfl
  have f8 : (t1.addb (openI s.p.opens e.b.pid) ⟨e.b.pid, e.b.epoch, []⟩ e.b).p.rows = s.p.rows := by show t1.p.rows = _; rw [g8]; rfl
  have f9 : (t1.addb (openI s.p.opens e.b.pid) ⟨e.b.pid, e.b.epoch, []⟩ e.b).p.prods = np := by show t1.p.prods = _; rw [g8]; rfl
  have g1 : t1.p.rows = s.p.rows := by rw [g8]; rfl
  have f10 : PidOk (t1.addb (openI s.p.opens e.b.pid) ⟨e.b.pid, e.b.epoch, []⟩ e.b).p.opens := fun x hx => by
    rcases List.mem_or_eq_of_mem_set hx with h | rfl
    · exact hokt.pid x h
    · exact hpid
  have hbb : ((batsC (batsOf t1.p.opens e.b.pid.toNat)).length + 1) * 56 ≤ 140737488355328 := by rw [hbo, batsC_len]; simp
  generalize t1.addb (openI s.p.opens e.b.pid) ⟨e.b.pid, e.b.epoch, []⟩ e.b = t at *
  generalize openI s.p.opens e.b.pid = i at *
  obtain ⟨q, hq⟩ : ∃ q, q = e.b.pid.toNat := ⟨_, rfl⟩
  simp only [← hq] at hx2 hbo f2 hbb f1 f3
  have hq1 : 1 ≤ q := by omega
  have hq8 : q ≤ 8 := by omega
  have hle : i * 3 + 3 ≤ (opensC t1.vt t1.p.opens).length := by omega
  have hle2 : i * 3 + 2 + 1 ≤ (opensC t1.vt t1.p.opens).length := by omega
  simp only [BatD.dv, ht] at c3 c5 c7
  have d1 : ((checkF s.p.prods e.b).2.2 != 0) = false := by simp [hc.1]
  have d2 := hc.2
  have f11 : batsC [e.b] = batsC (batsOf t1.p.opens q) ++ [.d (int e.b.pid), .d (int e.b.epoch), .d (int e.b.seq), .d (boo true), .d (.lst 2 (e.b.recs.map RecD.dv))] := by
    rw [hbo, show [e.b] = [] ++ [e.b] from rfl, batsC_app]; simp only [BatD.dv, ht, List.map_cons, List.map_nil]
  have f2' : (opensC t1.vt t1.p.opens).take (i * 3 + 2) ++ [.mt (10 + q) (t1.vt q + 1)] ++ (opensC t1.vt t1.p.opens).drop (i * 3 + 3) = opensC t.vt t.p.opens := f2.symm
  clear f2 hx0 hol hoe hlt hti ho hk hc g8 hile
  have hq2 : q = 1 ∨ q = 2 ∨ q = 3 ∨ q = 4 ∨ q = 5 ∨ q = 6 ∨ q = 7 ∨ q = 8 := by omega
  clear hq hq1 hq8
  refine FunG.of_bodyH rfl rfl Tryd.func53 rfl rfl Tryd.ntmps53 Tryd.results53 (Nat.le_of_ble_eq_true rfl) (okG_in rfl rfl hp.pid f10) ?_
  (refine gO (And.intro @GRUN (And.intro @EntD.dv.eq_1 (And.intro @BatD.dv.eq_1 (ht)))) ?_; try (with_reducible exact True.intro))
  refine Wp.reg (fun K hK => ?_)
  (refine rO (And.intro @GRUN (@EntD.dv.eq_1)) ?_; try (with_reducible exact True.intro))
  refine bcall_s c1 rfl (snap_arg hp (by (refine rO (And.intro @GRUN (And.intro @endB.eq_1 (@endB.eq_2))) ?_; try (with_reducible exact True.intro)))) ?_
  (refine rO (@GRUN) ?_; try (with_reducible exact True.intro))
  refine hK _ ?_
  clear hK K
  (refine gO (And.intro @GRUN (And.intro @EntD.dv.eq_1 (And.intro d1 (d2)))) ?_; try (with_reducible exact True.intro))
  (first | refine Wp.sregM mixed ?_ | refine Wp.regM mixed ?_ | (refine Wp.seq ?_; first | refine Wp.sregM mixed ?_ | refine Wp.regM mixed ?_))
  (refine MTr.at 12 (fun K hK => ?_); (refine rO (@GRUN) ?_; try (with_reducible exact True.intro)); refine hK _ _ ?_; clear hK K)
  refine MTr.rowNew (id := 20) (cs := [.d (int e.b.pid), .d (int e.b.epoch), .d (.val (.slice none 0 0))]) rfl esize_opens ⟨by decide, by decide, by decide, rfl, rfl⟩ ⟨by (refine rO (@GRUN) ?_; try (with_reducible exact True.intro)), by (refine rO (@GRUN) ?_; try (with_reducible exact True.intro)), by (refine rO (@GRUN) ?_; try (with_reducible exact True.intro)), rfl, by (refine rO (@GRUN) ?_; try (with_reducible exact True.intro)), rfl⟩ ?_
  (refine MTr.call (c8) [] 1002 rfl rfl ?_ ?_; (focus ((refine rOs (And.intro @HEREN (And.intro @GRUN (And.intro @HE_ren_id (@withP.eq_1)))) ?_; try (with_reducible exact True.intro)); done)))
  (refine MTr.done (fun K hK => ?_); (refine rOt (And.intro @GRUN (And.intro @putB.eq_1 (And.intro @putB.eq_2 (And.intro @HE_ren_id (And.intro @SV_ren_id (And.intro g4 (And.intro g5 (@withP.eq_1)))))))) ?_; try (with_reducible exact True.intro)); refine hK _ _ ?_; clear hK K; refine ⟨by kernel_rfl, ?_⟩)
  rcases hq2 with rfl | rfl | rfl | rfl | rfl | rfl | rfl | rfl <;> ((refine gO (And.intro @GRUN (And.intro g4 (And.intro g5 (And.intro hle (And.intro hx2 (And.intro hbb (And.intro hle2 (f2')))))))) ?_; try (with_reducible exact True.intro)); refine bodyQG.ret ?_; (refine rO (And.intro @GRUN (And.intro @endB.eq_1 (And.intro @endB.eq_2 (And.intro f1 (And.intro f3 (And.intro f4 (And.intro f5 (And.intro f6 (And.intro f7 (And.intro f8 (And.intro f9 (And.intro f11 (And.intro g1 (And.intro g5 (And.intro @withP.eq_1 (And.intro @List.flatten_cons.{0} (And.intro @List.flatten_nil.{0} (And.intro @List.map_cons.{0,0} (And.intro @List.map_nil.{0,0} (@List.append_nil.{0})))))))))))))))))))) ?_; try (with_reducible exact True.intro)))
end Go.Proofs.YtafipkbffboebaaDoor
namespace Go.Proofs.YtafipkbffboebaaDoor
open Go Go.RowKit
set_option maxHeartbeats 8000000
set_option maxRecDepth 100000
set_option linter.unusedVariables false
set_option linter.unusedSimpArgs false
abbrev markMsg1 : List UInt8 := [97, 32, 109, 97, 114, 107, 32, 111, 102, 32, 110, 111, 32, 116, 114, 97, 110, 115, 97, 99, 116, 105, 111, 110]
abbrev markMsg2 : List UInt8 := [97, 32, 109, 97, 114, 107, 32, 119, 105, 116, 104, 111, 117, 116, 32, 114, 111, 111, 109]
theorem markNo1_fun (s : FoldS) (e : EntD) (hp : OpOk s.p.opens) (hl : s.p.opens.length ≤ 1000) (ho : openB s.p.opens e.b.pid = false) :
    FunG Tryd.prog 54 [.c (.own 0 0), entV e] inK (ofH (inM s)) (imposV markMsg1) inK (ofH (inM s)) := by
  have c1 := open_fun s.p e.b.pid (by omega)
  have c2 := impos_fun markMsg1
  rw [ho] at c1
  refine FunG.of_bodyH rfl rfl Tryd.func54 rfl rfl Tryd.ntmps54 Tryd.results54 (Nat.le_of_ble_eq_true rfl) (okG_in rfl rfl hp.pid hp.pid) ?_
  (refine gO (And.intro @GRUN (@EntD.dv.eq_1)) ?_; try (with_reducible exact True.intro))
  refine Wp.reg (fun K hK => ?_)
  (refine rO (And.intro @GRUN (@EntD.dv.eq_1)) ?_; try (with_reducible exact True.intro))
  refine bcall_s c1 rfl (snap_arg hp (by (refine rO (And.intro @GRUN (And.intro @endB.eq_1 (@endB.eq_2))) ?_; try (with_reducible exact True.intro)))) ?_
  (refine rO (@GRUN) ?_; try (with_reducible exact True.intro))
  refine hK _ ?_
  clear hK K
  (refine gO (And.intro @GRUN (@EntD.dv.eq_1)) ?_; try (with_reducible exact True.intro))
  refine bodyQG.ret ?_
  (refine rO (And.intro @GRUN (And.intro @endB.eq_1 (@endB.eq_2))) ?_; try (with_reducible exact True.intro))
theorem markNo2_fun (s : FoldS) (e : EntD) (hp : OpOk s.p.opens) (hl : s.p.opens.length ≤ 1000) (o : OpenD) (hi : s.p.opens[openI s.p.opens e.b.pid]? = some o) (hpid : o.pid = e.b.pid) (hep : o.epoch ≠ e.b.epoch) :
    FunG Tryd.prog 54 [.c (.own 0 0), entV e] inK (ofH (inM s)) (imposV markMsg1) inK (ofH (inM s)) := by
  obtain ⟨hlt, hoe⟩ := List.getElem?_eq_some_iff.1 hi
  have hoB : openB s.p.opens e.b.pid = true := by unfold openB; rw [hi]; simpa using hpid
  have c1 := open_fun s.p e.b.pid (by omega)
  have c2 := impos_fun markMsg1
  rw [hoB] at c1
  obtain ⟨hx0, hx1, hx2⟩ := opensC_cells s.vt s.p.opens _ hlt
  rw [hoe] at hx0 hx1 hx2
  have hol := opensC_len s.vt s.p.opens
  generalize openI s.p.opens e.b.pid = i at *
  have hle : i * 3 + 3 ≤ (opensC s.vt s.p.opens).length := by omega
  have d3 : (o.epoch != e.b.epoch) = true := by simpa using hep
  refine FunG.of_bodyH rfl rfl Tryd.func54 rfl rfl Tryd.ntmps54 Tryd.results54 (Nat.le_of_ble_eq_true rfl) (okG_in rfl rfl hp.pid hp.pid) ?_
  (refine gO (And.intro @GRUN (@EntD.dv.eq_1)) ?_; try (with_reducible exact True.intro))
  refine Wp.reg (fun K hK => ?_)
  (refine rO (And.intro @GRUN (@EntD.dv.eq_1)) ?_; try (with_reducible exact True.intro))
  refine bcall_s c1 rfl (snap_arg hp (by (refine rO (And.intro @GRUN (And.intro @endB.eq_1 (@endB.eq_2))) ?_; try (with_reducible exact True.intro)))) ?_
  (refine rO (@GRUN) ?_; try (with_reducible exact True.intro))
  refine hK _ ?_
  clear hK K
  (refine gO (And.intro @GRUN (And.intro @EntD.dv.eq_1 (And.intro hle (And.intro hx1 (d3))))) ?_; try (with_reducible exact True.intro))
  refine bodyQG.ret ?_
  (refine rO (And.intro @GRUN (And.intro @endB.eq_1 (@endB.eq_2))) ?_; try (with_reducible exact True.intro))
def sumR : List BatD → Nat
  | [] => 0
  | b :: l => b.recs.length + sumR l
theorem sumR_app : ∀ (a b : List BatD), sumR (a ++ b) = sumR a + sumR b
  | [], b => by simp [sumR]
  | x :: a, b => by simp [sumR, sumR_app a b]; omega
theorem sumR_take (l : List BatD) (k : Nat) (h : k < l.length) : sumR (l.take (k + 1)) = sumR (l.take k) + l[k].recs.length := by
  rw [List.take_succ_eq_append_getElem h, sumR_app]; simp [sumR]
theorem sumR_le (l : List BatD) (k : Nat) : sumR (l.take k) ≤ sumR l := by
  conv => rhs; rw [← List.take_append_drop k l, sumR_app]
  omega
theorem batsC_at (l : List BatD) (j : Nat) (hj : j < l.length) : ((batsC l).drop (j * 5)).take 5 = l[j].dv.map CV.d := by
  have h : (batsC l).drop (j * 5) = batsC (l.drop j) := by
    clear hj
    induction l generalizing j with
    | nil => simp [batsC]
    | cons o l ih =>
      cases j with
      | zero => simp
      | succ j =>
        have := ih j
        unfold batsC at this ⊢
        rw [List.map_cons, List.flatten_cons, List.map_append, List.drop_succ_cons, ← this, show (j + 1) * 5 = 5 + j * 5 by omega, List.drop_append]
        simp [BatD.dv]
  rw [h, List.drop_eq_getElem_cons hj]
  show (List.map CV.d (l[j].dv ++ _)).take 5 = _
  rw [List.map_append]
  exact List.take_left' rfl
def putsS (s : FoldS) (l : List BatD) : FoldS := l.foldl putS s
theorem puts_keep : ∀ (l : List BatD) (s : FoldS), (putsS s l).p.opens = s.p.opens ∧ (putsS s l).vt = s.vt ∧ (putsS s l).vo = s.vo ∧ (putsS s l).p.prods = s.p.prods ∧ (putsS s l).p.start = s.p.start ∧ (putsS s l).p.fin = s.p.fin + (sumR l : Nat) ∧ (putsS s l).p.rows.length = s.p.rows.length + sumR l
  | [], s => by simp [putsS, sumR]
  | b :: l, s => by
    obtain ⟨h1, h2, h3, h4, h5, h6, h7⟩ := puts_keep l (putS s b)
    have hrl : (rowsF b s.p.fin).length = b.recs.length := rowsT_len _ _ _
    refine ⟨h1, h2, h3, h4, h5, ?_, ?_⟩
    · show (putsS (putS s b) l).p.fin = _
      rw [h6]; show s.p.fin + (b.recs.length : Int) + _ = _
      simp only [sumR, Int.natCast_add]; omega
    · show (putsS (putS s b) l).p.rows.length = _
      rw [h7]; show (s.p.rows ++ rowsF b s.p.fin).length + _ = _
      rw [List.length_append, hrl]; simp only [sumR]; omega
theorem puts_take (s : FoldS) (l : List BatD) (k : Nat) (h : k < l.length) : putsS s (l.take (k + 1)) = putS (putsS s (l.take k)) l[k] := by
  unfold putsS
  rw [List.take_succ_eq_append_getElem h, List.foldl_append]; rfl
end Go.Proofs.YtafipkbffboebaaDoor
namespace Go.Proofs.YtafipkbffboebaaDoor
open Go Go.RowKit
set_option maxHeartbeats 8000000
set_option maxRecDepth 100000
set_option linter.unusedVariables false
set_option linter.unusedSimpArgs false
theorem okB_inM (s : FoldS) (ks : List Nat) (h : PidOk s.p.opens) : okB (inK ++ ks) (inM s) = true := by
  have h2 := ids_opens s.vt _ h
  unfold okB
  simp only [inM, List.all_cons, List.all_nil, HE.ids, rowsC, batsC, ids_plain, Bool.and_true, Bool.true_and]
  have h3 : (((opensC s.vt s.p.opens).flatMap CV.ids).all fun i => (inK ++ ks).contains i) = true := by
    rw [List.all_eq_true] at h2 ⊢
    intro i hi
    have := h2 i hi
    simp only [List.contains_iff_mem, List.mem_append] at this ⊢
    exact .inl this
  rw [h3]
  simp [CV.ids]
theorem okIds_in {L : List (Nat × SV)} {s : FoldS} {X : List (Nat × HE)} {ks : List Nat} (hk : X.map (·.1) = ks) (hp : PidOk s.p.opens) (hX : okB (inK ++ ks) X = true) (hL : (L.all fun p => p.2.ids.all fun i => (inK ++ ks).contains i) = true) : (okIds L (inM s ++ X) && keepsLent ⟨inK, [], false, none⟩ (inM s ++ X)) = true := by
  have e1 : (inM s ++ X).map (·.1) = inK ++ ks := by rw [List.map_append, hk]; rfl
  have h1 := okB_inM s ks hp
  unfold okB at h1 hX
  unfold okIds keepsLent
  rw [e1, hL, List.all_append, h1, hX]
  simp
abbrev entH (e : EntD) : List (Nat × HE) := [(1000, .cells (e.dv.map CV.d))]
abbrev mk1 (s : FoldS) (e : EntD) (o : OpenD) (i q k : Nat) : St := ⟨ofL [(0, .c (.own 0 0)), (3, .c (.own 1000 0)), (5, vi .i64 i), (7, .c (.mt (10 + q) (s.vt q))), (8, vi .i64 ((1 + sumR (o.bats.take k) : Nat) : Int)), (50, .c (.mt (10 + q) (s.vt q))), (51, vi .i64 o.bats.length), (52, vi .i64 k)], ofH (inM s ++ entH e), 1001, 112, ⟨inK, [], false, none⟩⟩
abbrev mk2 (s : FoldS) (e : EntD) (o : OpenD) (i q k : Nat) : St := ⟨ofL [(0, .c (.own 0 0)), (3, .c (.own 1000 0)), (5, vi .i64 i), (67, .c (.mt (10 + q) (s.vt q))), (68, vi .i64 o.bats.length), (69, vi .i64 k)], ofH (inM (putsS s (o.bats.take k)) ++ entH e), 1001, 112, ⟨inK, [], false, none⟩⟩
def fin1 (s : FoldS) : FoldS := ⟨{ s.p with fin := s.p.fin + 1 }, s.vr, s.vo, s.vt⟩
theorem markYes_fun (s : FoldS) (e : EntD) (hp : OpOk s.p.opens) (hl : s.p.opens.length ≤ 1000) (hs : SmallL s.p.prods) (o : OpenD) (hi : s.p.opens[openI s.p.opens e.b.pid]? = some o) (hpid : o.pid = e.b.pid) (hep : o.epoch = e.b.epoch) (hy : e.yes = true)
    (hbl : o.bats.length ≤ 1000) (hrec : ∀ b ∈ o.bats, b.recs.length ≤ 100000) (hsum : s.p.rows.length + sumR o.bats ≤ 1000000) (hf : -1000000 ≤ s.p.fin ∧ s.p.fin ≤ 1048576) (r : SV) (t : FoldS) (ht : PidOk t.p.opens) (hrid : subB r.ids inK = true)
    (hr : (s.p.fin + sumR o.bats + 1 ≤ 1048576 ∧ r = nilE ∧ t = withP ((fin1 (putsS s o.bats)).del (openI s.p.opens e.b.pid) o.pid) (clearF s.p.prods e.b.pid)) ∨ (1048576 < s.p.fin + sumR o.bats + 1 ∧ r = imposV markMsg2 ∧ t = s)) :
    FunG Tryd.prog 54 [.c (.own 0 0), entV e] inK (ofH (inM s)) r inK (ofH (inM t)) := by
  obtain ⟨hlt, hoe⟩ := List.getElem?_eq_some_iff.1 hi
  have hoB : openB s.p.opens e.b.pid = true := by unfold openB; rw [hi]; simpa using hpid
  have c1 := open_fun s.p e.b.pid (by omega)
  rw [hoB] at c1
  obtain ⟨hx0, hx1, hx2⟩ := opensC_cells s.vt s.p.opens _ hlt
  rw [hoe] at hx0 hx1 hx2
  have hmem : o ∈ s.p.opens := hoe ▸ List.getElem_mem hlt
  have hp8 := hp.pid o hmem
  have hbo := batsOf_mem hp hmem
  have hol := opensC_len s.vt s.p.opens
  generalize openI s.p.opens e.b.pid = i at *
  have hle : i * 3 + 3 ≤ (opensC s.vt s.p.opens).length := by omega
  have d3 : (o.epoch != e.b.epoch) = false := by simp [hep]
  have hs1 : sumR o.bats ≤ 1000000 := by omega
  obtain ⟨q, hq⟩ : ∃ q, q = o.pid.toNat := ⟨_, rfl⟩
  rw [← hq] at hx2 hbo
  have hq1 : 1 ≤ q := by omega
  have hq8 : q ≤ 8 := by omega
  have hbl6 : (batsC (batsOf s.p.opens q)).length / 5 = o.bats.length := by rw [hbo, batsC_len, Nat.mul_div_cancel _ (by decide)]
  have hq2 : q = 1 ∨ q = 2 ∨ q = 3 ∨ q = 4 ∨ q = 5 ∨ q = 6 ∨ q = 7 ∨ q = 8 := by omega
  refine FunG.of_bodyH rfl rfl Tryd.func54 rfl rfl Tryd.ntmps54 Tryd.results54 (Nat.le_of_ble_eq_true rfl) (okG_in rfl hrid hp.pid ht) ?_
  (refine gO (And.intro @GRUN (And.intro @EntD.dv.eq_1 (hy))) ?_; try (with_reducible exact True.intro))
  refine Wp.reg (fun K hK => ?_)
  (refine rO (And.intro @GRUN (@EntD.dv.eq_1)) ?_; try (with_reducible exact True.intro))
  refine bcall_s c1 rfl (snap_arg hp (by (refine rO (And.intro @GRUN (And.intro @endB.eq_1 (@endB.eq_2))) ?_; try (with_reducible exact True.intro)))) ?_
  (refine rO (@GRUN) ?_; try (with_reducible exact True.intro))
  refine hK _ ?_
  clear hK K
  (refine gO (And.intro @GRUN (And.intro @EntD.dv.eq_1 (And.intro hle (And.intro hx1 (d3))))) ?_; try (with_reducible exact True.intro))
  have hq3 := hq2
  clear hq2 hq1 hq8 hq
  rcases hq3 with hq4 | hq4 | hq4 | hq4 | hq4 | hq4 | hq4 | hq4
  all_goals
    rw [hq4] at hx2 hbl6
    (refine gO (And.intro @GRUN (And.intro hq4 (And.intro hle (And.intro hx2 (hbl6))))) ?_; try (with_reducible exact True.intro))
    refine Wp.loop (fun k : Nat => mk1 s e o i q k) (fun k => k ≤ o.bats.length) (fun k => o.bats.length - k) 0 (Nat.zero_le _) ?_ ?_
    · refine Weak.keep rfl (okIds_in rfl hp.pid rfl (by subst hq4; rfl)) ?_
      (refine rO (And.intro @GRUN (And.intro hq4 (And.intro @EntD.dv.eq_1 (And.intro @List.map_cons.{0,0} (And.intro @List.map_nil.{0,0} (And.intro @List.take_zero.{0} (And.intro @sumR.eq_1 (And.intro @sumR.eq_2 (hy))))))))) ?_; try (with_reducible exact True.intro))
    intro k hk
    (refine gO (And.intro @GRUN (hq4)) ?_; try (with_reducible exact True.intro))
    refine Wp.cond (by (refine rO0 ?_; try (with_reducible exact True.intro)); rfl) (fun h => ?_) (fun h => ?_)
    · have hltk : k < o.bats.length := by simpa using h
      have hdt : ((batsC (batsOf s.p.opens q)).drop (k * 5)).take 5 = o.bats[k].dv.map CV.d := by rw [hbo]; exact batsC_at o.bats k hltk
      have hle5 : k * 5 + 5 ≤ (batsC (batsOf s.p.opens q)).length := by rw [hbo, batsC_len]; omega
      have hst := sumR_take o.bats k hltk
      have hsl := sumR_le o.bats (k + 1)
      have hw : IntKind.i64.wrap (1 + (sumR (o.bats.take k) : Int) + (o.bats[k].recs.length : Int)) = 1 + (sumR (o.bats.take (k + 1)) : Int) := by rw [wrap_i64 (by omega), hst, Int.natCast_add]; omega
      have hwk : IntKind.i64.wrap ((k : Int) + 1) = ((k + 1 : Nat) : Int) := by rw [wrap_i64 (by omega)]; rfl
      generalize o.bats[k] = b at *
      simp only [BatD.dv, List.map_cons, List.map_nil] at hdt
      rw [hq4] at hdt hle5
      (refine gO (And.intro @GRUN (And.intro hq4 (And.intro hle5 (And.intro hdt (And.intro hw (And.intro hwk (@List.length_map.{0,0}))))))) ?_; try (with_reducible exact True.intro))
      refine ⟨k + 1, hltk, by omega, Weak.keep rfl (okIds_in rfl hp.pid rfl (by subst hq4; rfl)) ?_⟩
      (refine rO (And.intro @GRUN (And.intro hq4 (And.intro @EntD.dv.eq_1 (And.intro @List.map_cons.{0,0} (@List.map_nil.{0,0}))))) ?_; try (with_reducible exact True.intro))
    · have hke : k = o.bats.length := by
        rw [decide_eq_false_iff_not] at h; omega
      subst hke
      rw [List.take_length]
      have c4 := fits_fun s.p (1 + (sumR o.bats : Int))
      rw [show IntKind.i64.wrap (1048576 - (1 + (sumR o.bats : Int))) = 1048576 - (1 + (sumR o.bats : Int)) from wrap_i64 (by omega)] at c4
      (refine gO (And.intro @GRUN (hq4)) ?_; try (with_reducible exact True.intro))
      refine Wp.reg (fun K hK => ?_)
      (refine rO (And.intro @GRUN (hq4)) ?_; try (with_reducible exact True.intro))
      refine bcall_s c4 rfl (snap_arg hp (by (refine rO (And.intro @GRUN (And.intro hq4 (And.intro @endB.eq_1 (@endB.eq_2)))) ?_; try (with_reducible exact True.intro)))) ?_
      (refine rO (And.intro @GRUN (hq4)) ?_; try (with_reducible exact True.intro))
      refine hK _ ?_
      clear hK K
      rcases hr with ⟨hfit, rfl, hts⟩ | ⟨hfit, rfl, hts⟩
      rotate_left
      · rw [hts]
        have c2 := impos_fun markMsg2
        have d5 : decide (s.p.fin ≤ 1048576 - (1 + (sumR o.bats : Int))) = false := decide_eq_false (by omega)
        (refine gO (And.intro @GRUN (And.intro hq4 (d5))) ?_; try (with_reducible exact True.intro))
        refine bodyQG.ret ?_
        (refine rO (And.intro @GRUN (And.intro hq4 (And.intro @endB.eq_1 (@endB.eq_2)))) ?_; try (with_reducible exact True.intro))
      have d5 : decide (s.p.fin ≤ 1048576 - (1 + (sumR o.bats : Int))) = true := decide_eq_true (by omega)
      (refine gO (And.intro @GRUN (And.intro hq4 (And.intro d5 (hbl6)))) ?_; try (with_reducible exact True.intro))
      refine Wp.loop (fun k : Nat => mk2 s e o i q k) (fun k => k ≤ o.bats.length) (fun k => o.bats.length - k) 0 (Nat.zero_le _) ?_ ?_
      · refine Weak.keep rfl (okIds_in rfl hp.pid rfl (by subst hq4; rfl)) ?_
        (refine rO (And.intro @GRUN (And.intro hq4 (And.intro @entH.eq_1 (And.intro @EntD.dv.eq_1 (And.intro @List.map_cons.{0,0} (And.intro @List.map_nil.{0,0} (And.intro @List.take_zero.{0} (And.intro @putsS.eq_1 (@List.foldl_nil.{0,0}))))))))) ?_; try (with_reducible exact True.intro))
      intro k hk
      obtain ⟨k1, k2, k3, k4, k5, k6, k7⟩ := puts_keep (o.bats.take k) s
      have hsl := sumR_le o.bats k
      have hpk : PidOk (putsS s (o.bats.take k)).p.opens := by rw [k1]; exact hp.pid
      (refine gO (And.intro @GRUN (hq4)) ?_; try (with_reducible exact True.intro))
      refine Wp.cond (by (refine rO0 ?_; try (with_reducible exact True.intro)); rfl) (fun h => ?_) (fun h => ?_)
      · have hltk : k < o.bats.length := by simpa using h
        have hdt : ((batsC (batsOf (putsS s (o.bats.take k)).p.opens q)).drop (k * 5)).take 5 = o.bats[k].dv.map CV.d := by rw [k1, hbo]; exact batsC_at o.bats k hltk
        have hle5 : k * 5 + 5 ≤ (batsC (batsOf (putsS s (o.bats.take k)).p.opens q)).length := by rw [k1, hbo, batsC_len]; omega
        have hwk : IntKind.i64.wrap ((k : Int) + 1) = ((k + 1 : Nat) : Int) := by rw [wrap_i64 (by omega)]; rfl
        have hpt := puts_take s o.bats k hltk
        have c6 := put_fun12 (putsS s (o.bats.take k)) o.bats[k] hpk (by rw [k6]; omega) (hrec _ (List.getElem_mem hltk)) (by rw [k7]; omega)
        rw [← hpt] at c6
        have hvt : (putsS s (o.bats.take k)).vt q = s.vt q := by rw [k2]
        have hpk' : PidOk (putsS s (o.bats.take (k + 1))).p.opens := by rw [(puts_keep (o.bats.take (k + 1)) s).1]; exact hp.pid
        obtain ⟨sk', hsk'⟩ : ∃ x, x = putsS s (o.bats.take (k + 1)) := ⟨_, rfl⟩
        have hts1 := hsk'.symm
        rw [← hsk'] at c6 hpk' hpt
        clear hsk'
        generalize putsS s (o.bats.take k) = sk at *
        generalize o.bats[k] = b at *
        simp only [BatD.dv, List.map_cons, List.map_nil] at hdt
        have hbV : batV b = .agg [.d (int b.pid), .d (int b.epoch), .d (int b.seq), .d (boo b.txn), .d (.lst 2 (b.recs.map RecD.dv))] := rfl
        rw [hq4] at hdt hle5 hvt
        (refine gO (And.intro @GRUN (And.intro hq4 (And.intro hle5 (And.intro hdt (hvt))))) ?_; try (with_reducible exact True.intro))
        (first | refine Wp.sregG ?_ | refine Wp.regG ?_ | (refine Wp.seq ?_; first | refine Wp.sregG ?_ | refine Wp.regG ?_))
        (refine GRun.at 2 (fun K hK => ?_); (refine rO (@GRUN) ?_; try (with_reducible exact True.intro)); refine hK _ ?_; clear hK K)
        (refine GRun.call (c6) [] 1002 rfl rfl ?_ ?_; (focus ((refine rOs (And.intro @HEREN (And.intro @GRUN (And.intro @HE_ren_id (And.intro hvt (hbV))))) ?_; try (with_reducible exact True.intro)); done)))
        (refine GRun.done (fun K hK => ?_); (refine rOt (And.intro @GRUN (And.intro @putB.eq_1 (And.intro @putB.eq_2 (And.intro @HE_ren_id (@SV_ren_id))))) ?_; try (with_reducible exact True.intro)); refine hK _ ?_; clear hK K)
        (refine gO (And.intro @GRUN (And.intro hq4 (hwk))) ?_; try (with_reducible exact True.intro))
        refine ⟨k + 1, hltk, by omega, Weak.keep rfl (okIds_in rfl (by rw [hts1]; exact hpk') rfl (by subst hq4; rfl)) ?_⟩
        (refine rO (And.intro @GRUN (And.intro hq4 (And.intro @entH.eq_1 (And.intro @EntD.dv.eq_1 (And.intro @List.map_cons.{0,0} (And.intro @List.map_nil.{0,0} (hts1))))))) ?_; try (with_reducible exact True.intro))
      · have hke : k = o.bats.length := by
          rw [decide_eq_false_iff_not] at h; omega
        subst hke
        rw [List.take_length] at *
        have hok1 : OpOk (fin1 (putsS s o.bats)).p.opens := by show OpOk (putsS s o.bats).p.opens; rw [k1]; exact hp
        have hi1 : (fin1 (putsS s o.bats)).p.opens[i]? = some o := by show (putsS s o.bats).p.opens[i]? = _; rw [k1]; exact hi
        obtain ⟨hlt1, hoe1⟩ := List.getElem?_eq_some_iff.1 hi1
        have c8 := delete_fun2 (fin1 (putsS s o.bats)) i hok1 hlt1 (by show (putsS s o.bats).p.opens.length ≤ _; rw [k1]; exact hl)
        rw [hoe1] at c8
        have c9 := clear_fun s.p.prods e.b.pid hs
        have hwf : IntKind.i64.wrap ((putsS s o.bats).p.fin + 1) = (putsS s o.bats).p.fin + 1 := wrap_i64 (by rw [k6]; omega)
        have hwi : IntKind.i64.wrap ((i : Int) + 1) = ((i + 1 : Nat) : Int) := by rw [wrap_i64 (by omega)]; rfl
        have g1 : ((fin1 (putsS s o.bats)).del i o.pid).vo = (putsS s o.bats).vo + 1 := rfl
        have g2 : ((fin1 (putsS s o.bats)).del i o.pid).vr = (putsS s o.bats).vr := rfl
        have g3 : ((fin1 (putsS s o.bats)).del i o.pid).p.start = (putsS s o.bats).p.start := rfl
        have g4 : ((fin1 (putsS s o.bats)).del i o.pid).p.fin = (putsS s o.bats).p.fin + 1 := rfl
        have g5 : ((fin1 (putsS s o.bats)).del i o.pid).p.rows = (putsS s o.bats).p.rows := rfl
        rw [hts]
        generalize (fin1 (putsS s o.bats)).del i o.pid = t1 at *
        generalize putsS s o.bats = S at *
        (refine gO (And.intro @GRUN (And.intro hq4 (hwf))) ?_; try (with_reducible exact True.intro))
        (first | refine Wp.sregG ?_ | refine Wp.regG ?_ | (refine Wp.seq ?_; first | refine Wp.sregG ?_ | refine Wp.regG ?_))
        (refine GRun.at 9 (fun K hK => ?_); (refine rO (And.intro @GRUN (hwi)) ?_; try (with_reducible exact True.intro)); refine hK _ ?_; clear hK K)
        (refine GRun.call (c8) [] 1002 rfl rfl ?_ ?_; (focus ((refine rOs (And.intro @HEREN (And.intro @GRUN (And.intro @HE_ren_id (And.intro @fin1.eq_1 (hwf))))) ?_; try (with_reducible exact True.intro)); done)))
        (refine GRun.done (fun K hK => ?_); (refine rOt (And.intro @GRUN (And.intro @putB.eq_1 (And.intro @putB.eq_2 (And.intro @HE_ren_id (And.intro @SV_ren_id (@fin1.eq_1)))))) ?_; try (with_reducible exact True.intro)); refine hK _ ?_; clear hK K)
        (refine gO (And.intro @GRUN (And.intro hq4 (And.intro @entH.eq_1 (And.intro @EntD.dv.eq_1 (And.intro @List.map_cons.{0,0} (And.intro @List.map_nil.{0,0} (k4))))))) ?_; try (with_reducible exact True.intro))
        refine bodyQG.ret ?_
        (refine rO (And.intro @GRUN (And.intro hq4 (And.intro @endB.eq_1 (And.intro @endB.eq_2 (And.intro @withP.eq_1 (And.intro g1 (And.intro g2 (And.intro g3 (And.intro g4 (And.intro g5 (k4))))))))))) ?_; try (with_reducible exact True.intro))
end Go.Proofs.YtafipkbffboebaaDoor
namespace Go.Proofs.YtafipkbffboebaaDoor
open Go Go.RowKit
set_option maxHeartbeats 8000000
set_option maxRecDepth 100000
set_option linter.unusedVariables false
set_option linter.unusedSimpArgs false
abbrev nilSl : SV := .c (.d (.val (.slice none 0 0)))
abbrev ma1 (s : FoldS) (e : EntD) (i : Nat) : St := ⟨ofL [(0, .c (.own 0 0)), (3, .c (.own 1000 0)), (5, vi .i64 i), (7, nilSl), (8, vi .i64 1), (50, nilSl), (51, vi .i64 0), (52, vi .i64 0)], ofH (inM s ++ entH e), 1001, 112, ⟨inK, [], false, none⟩⟩
abbrev ma2 (s : FoldS) (e : EntD) (i : Nat) : St := ⟨ofL [(0, .c (.own 0 0)), (3, .c (.own 1000 0)), (5, vi .i64 i), (67, nilSl), (68, vi .i64 0), (69, vi .i64 0)], ofH (inM s ++ entH e), 1001, 112, ⟨inK, [], false, none⟩⟩
theorem markAb_fun (s : FoldS) (e : EntD) (hp : OpOk s.p.opens) (hl : s.p.opens.length ≤ 1000) (hs : SmallL s.p.prods) (o : OpenD) (hi : s.p.opens[openI s.p.opens e.b.pid]? = some o) (hpid : o.pid = e.b.pid) (hep : o.epoch = e.b.epoch) (hy : e.yes = false)
    (hf : -1000000 ≤ s.p.fin ∧ s.p.fin ≤ 1048576) (r : SV) (t : FoldS) (ht : PidOk t.p.opens) (hrid : subB r.ids inK = true)
    (hr : (s.p.fin + 1 ≤ 1048576 ∧ r = nilE ∧ t = withP ((fin1 s).del (openI s.p.opens e.b.pid) o.pid) (clearF s.p.prods e.b.pid)) ∨ (1048576 < s.p.fin + 1 ∧ r = imposV markMsg2 ∧ t = s)) :
    FunG Tryd.prog 54 [.c (.own 0 0), entV e] inK (ofH (inM s)) r inK (ofH (inM t)) := by
  obtain ⟨hlt, hoe⟩ := List.getElem?_eq_some_iff.1 hi
  have hoB : openB s.p.opens e.b.pid = true := by unfold openB; rw [hi]; simpa using hpid
  have c1 := open_fun s.p e.b.pid (by omega)
  rw [hoB] at c1
  obtain ⟨hx0, hx1, hx2⟩ := opensC_cells s.vt s.p.opens _ hlt
  rw [hoe] at hx0 hx1 hx2
  have hmem : o ∈ s.p.opens := hoe ▸ List.getElem_mem hlt
  have hp8 := hp.pid o hmem
  have hol := opensC_len s.vt s.p.opens
  generalize openI s.p.opens e.b.pid = i at *
  have hle : i * 3 + 3 ≤ (opensC s.vt s.p.opens).length := by omega
  have d3 : (o.epoch != e.b.epoch) = false := by simp [hep]
  refine FunG.of_bodyH rfl rfl Tryd.func54 rfl rfl Tryd.ntmps54 Tryd.results54 (Nat.le_of_ble_eq_true rfl) (okG_in rfl hrid hp.pid ht) ?_
  (refine gO (And.intro @GRUN (And.intro @EntD.dv.eq_1 (hy))) ?_; try (with_reducible exact True.intro))
  refine Wp.reg (fun K hK => ?_)
  (refine rO (And.intro @GRUN (@EntD.dv.eq_1)) ?_; try (with_reducible exact True.intro))
  refine bcall_s c1 rfl (snap_arg hp (by (refine rO (And.intro @GRUN (And.intro @endB.eq_1 (@endB.eq_2))) ?_; try (with_reducible exact True.intro)))) ?_
  (refine rO (@GRUN) ?_; try (with_reducible exact True.intro))
  refine hK _ ?_
  clear hK K
  (refine gO (And.intro @GRUN (And.intro @EntD.dv.eq_1 (And.intro hle (And.intro hx1 (d3))))) ?_; try (with_reducible exact True.intro))
  refine Wp.loop (fun _ : Nat => ma1 s e i) (fun _ => True) (fun _ => 0) 0 trivial ?_ ?_
  · refine Weak.keep rfl (okIds_in rfl hp.pid rfl rfl) ?_
    (refine rO (And.intro @GRUN (And.intro @EntD.dv.eq_1 (And.intro @List.map_cons.{0,0} (And.intro @List.map_nil.{0,0} (hy))))) ?_; try (with_reducible exact True.intro))
  intro k _
  (refine gO (@GRUN) ?_; try (with_reducible exact True.intro))
  have c4 := fits_fun s.p 1
  rw [show IntKind.i64.wrap (1048576 - 1) = 1048575 from wrap_i64 (by decide)] at c4
  refine Wp.reg (fun K hK => ?_)
  (refine rO (@GRUN) ?_; try (with_reducible exact True.intro))
  refine bcall_s c4 rfl (snap_arg hp (by (refine rO (And.intro @GRUN (And.intro @endB.eq_1 (@endB.eq_2))) ?_; try (with_reducible exact True.intro)))) ?_
  (refine rO (@GRUN) ?_; try (with_reducible exact True.intro))
  refine hK _ ?_
  clear hK K
  rcases hr with ⟨hfit, rfl, hts⟩ | ⟨hfit, rfl, hts⟩
  rotate_left
  · rw [hts]
    have c2 := impos_fun markMsg2
    have d5 : decide (s.p.fin ≤ 1048575) = false := decide_eq_false (by omega)
    (refine gO (And.intro @GRUN (d5)) ?_; try (with_reducible exact True.intro))
    refine bodyQG.ret ?_
    (refine rO (And.intro @GRUN (And.intro @endB.eq_1 (@endB.eq_2))) ?_; try (with_reducible exact True.intro))
  have d5 : decide (s.p.fin ≤ 1048575) = true := decide_eq_true (by omega)
  (refine gO (And.intro @GRUN (d5)) ?_; try (with_reducible exact True.intro))
  refine Wp.loop (fun _ : Nat => ma2 s e i) (fun _ => True) (fun _ => 0) 0 trivial ?_ ?_
  · refine Weak.keep rfl (okIds_in rfl hp.pid rfl rfl) ?_
    (refine rO (And.intro @GRUN (And.intro @entH.eq_1 (And.intro @EntD.dv.eq_1 (And.intro @List.map_cons.{0,0} (@List.map_nil.{0,0}))))) ?_; try (with_reducible exact True.intro))
  intro k _
  have hi1 : (fin1 s).p.opens[i]? = some o := hi
  obtain ⟨hlt1, hoe1⟩ := List.getElem?_eq_some_iff.1 hi1
  have c8 := delete_fun2 (fin1 s) i hp hlt1 hl
  rw [hoe1] at c8
  have c9 := clear_fun s.p.prods e.b.pid hs
  have hwf : IntKind.i64.wrap (s.p.fin + 1) = s.p.fin + 1 := wrap_i64 (by omega)
  have hwi : IntKind.i64.wrap ((i : Int) + 1) = ((i + 1 : Nat) : Int) := by rw [wrap_i64 (by omega)]; rfl
  have g1 : ((fin1 s).del i o.pid).vo = s.vo + 1 := rfl
  have g2 : ((fin1 s).del i o.pid).vr = s.vr := rfl
  have g3 : ((fin1 s).del i o.pid).p.start = s.p.start := rfl
  have g4 : ((fin1 s).del i o.pid).p.fin = s.p.fin + 1 := rfl
  have g5 : ((fin1 s).del i o.pid).p.rows = s.p.rows := rfl
  rw [hts]
  generalize (fin1 s).del i o.pid = t1 at *
  (refine gO (And.intro @GRUN (hwf)) ?_; try (with_reducible exact True.intro))
  (first | refine Wp.sregG ?_ | refine Wp.regG ?_ | (refine Wp.seq ?_; first | refine Wp.sregG ?_ | refine Wp.regG ?_))
  (refine GRun.at 9 (fun K hK => ?_); (refine rO (And.intro @GRUN (hwi)) ?_; try (with_reducible exact True.intro)); refine hK _ ?_; clear hK K)
  (refine GRun.call (c8) [] 1002 rfl rfl ?_ ?_; (focus ((refine rOs (And.intro @HEREN (And.intro @GRUN (And.intro @HE_ren_id (And.intro @fin1.eq_1 (hwf))))) ?_; try (with_reducible exact True.intro)); done)))
  (refine GRun.done (fun K hK => ?_); (refine rOt (And.intro @GRUN (And.intro @putB.eq_1 (And.intro @putB.eq_2 (And.intro @HE_ren_id (And.intro @SV_ren_id (@fin1.eq_1)))))) ?_; try (with_reducible exact True.intro)); refine hK _ ?_; clear hK K)
  (refine gO (And.intro @GRUN (And.intro @entH.eq_1 (And.intro @EntD.dv.eq_1 (And.intro @List.map_cons.{0,0} (@List.map_nil.{0,0}))))) ?_; try (with_reducible exact True.intro))
  refine bodyQG.ret ?_
  (refine rO (And.intro @GRUN (And.intro @endB.eq_1 (And.intro @endB.eq_2 (And.intro @withP.eq_1 (And.intro g1 (And.intro g2 (And.intro g3 (And.intro g4 (g5))))))))) ?_; try (with_reducible exact True.intro))
end Go.Proofs.YtafipkbffboebaaDoor
