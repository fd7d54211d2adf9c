/- The abstract machine (MpI, MpJ, InF, InG). -/
import Derived.Test.YtafipkbffboebaaDoorMpH
import Derived.Test.YtafipkbffboebaaDoorInM
import Derived.Test.YtafipkbffboebaaDoorSqN
namespace Go.Proofs.YtafipkbffboebaaDoor
open Go Go.RowKit
set_option linter.unusedVariables false
set_option linter.unusedSimpArgs false
theorem GRun.rowNew {P : Program} {all : List Oper} {o : Oper} {os : List Oper} {σ : St} {k : St → Prop} {t e sz bb len : Nat} {zs : List Value} {ps : Array (Nat × Operand)} {cs : List CV} (id : Nat) (hop : o.op = .buildSlice t len ps)
    (hes : esize P t = some (e, sz, bb, zs)) (hlen : len ≠ 0 ∧ len * sz ≤ 16777216 ∧ 0 < len * sz ∧ zs.length = sz ∧ zs.all (·.oneCell') = true)
    (hc : guardB all σ.env o = some true ∧ bdst σ o = true ∧ afill (fun i => some (i * sz, sz)) ((zrow zs len).map fun v => .d (.val v)) (ps.toList.map fun p => (p.1, evalS σ.env p.2)) = some cs ∧ cs.length = len * sz ∧ σ.H id = none ∧ σ.fx.dfs.contains id = false)
    (h : GRun P all os ⟨putE σ.env o.dst (.c (.mt id 1)), upd σ.H id (some (.mrow e sz 1 cs)), σ.nx, σ.sz, σ.fx⟩ k) : GRun P all (o :: os) σ k := by
  obtain ⟨hg, hd, hcs, hcl, hn, hdf⟩ := hc
  obtain ⟨hl0, hc1, hc2, hc3', hc4⟩ := hlen
  refine GRun.opr hg hd (by rw [hop]; intro c hc; cases hc) fun F K0 g a w hr => ?_
  have hc3 : zs.length ≠ 0 := by intro e; rw [← hc3', e] at hc2; simp at hc2
  have hs0 : 0 < sz := by omega
  obtain ⟨hu, j, z, u, hj, hz, hs, hby, hzs, _⟩ := esize_spec hes
  rw [zrow_eq zs hc3 len, hc3'] at hcs
  have hz1 : ∀ u ∈ zeroRow zs (len * sz), u.oneCell' = true := fun u hu => by
    simp only [zeroRow, List.mem_map, List.mem_range] at hu
    obtain ⟨i, hi, rfl⟩ := hu
    have hlt : i % zs.length < zs.length := Nat.mod_lt _ (by omega)
    have : zs.toArray[i % zs.length]! = zs[i % zs.length] := by simp [hlt]
    rw [this]
    exact List.all_eq_true.1 hc4 _ (List.getElem_mem hlt)
  obtain ⟨vs, hf, hrr, h1⟩ := afill_rep (vals_rep g σ.H (zeroRow zs (len * sz))) hz1 (parts_rep (g := g) (H := σ.H) (ρ := evalS σ.env) (a := a) ps.toList (fun p _ => evalS_rep hr p.2)) hcs
  have hvl : vs.length = len * sz := by rw [← hrr.1, hcl]
  obtain ⟨h2, l2⟩ := hr.mem.mtok e sz hn hs0
  obtain ⟨h3, l3⟩ := h2.mnew (n' := 1) (cp := len) (cs' := cs) (vs := vs) (rest := []) (cur := vs.toArray) (upd_same _ _ _) (by decide) hs0 (by rw [hcl, Nat.mul_mod_left]) (by simp) (by simpa using hvl) (hrr.mono l2) h1
  rw [upd_upd] at h3 l3
  refine ⟨_, .slice (some ⟨w.heap.size, 0, none⟩) len len, _, _, _, .c (.mt id 1), σ.nx, ?_, .inl rfl, h3, l2.trans l3, ?_, ?_, h⟩
  · unfold execOp; rw [hop]
    have hqs : (ps.map fun p => (p.1, a.eval p.2)).toList = ps.toList.map fun p => (p.1, a.eval p.2) := by simp
    have hrow : (Array.range (len * sz)).map (fun x => z.cells[x % z.cells.size]!) = (zeroRow zs (len * sz)).toArray := by
      subst hzs
      apply Array.ext'
      simp [zeroRow]
    have hf' : Instr.fill (fun i => some (i * sz, sz)) (zeroRow zs (len * sz)).toArray (ps.toList.map fun p => (p.1, a.eval p.2)) = some vs.toArray := by simpa using hf
    have hb : (Instr.buildSlice t len (ps.map fun p => (p.1, a.eval p.2))).run P w = .ok (.slice (some ⟨w.heap.size, 0, none⟩) len len) (w.alloc (.cells vs.toArray e)) := by
      unfold Instr.buildSlice
      simp only [Sem.run_bind, run_underlying hu, Result.andThen_ok, run_sizeOf hj, hs]
      rw [if_neg (by omega)]
      rw [if_neg (by omega)]
      simp only [Sem.run_bind, zeroValue, typeInfo, run_program, Result.andThen_ok, hj, Sem.run_pure, hz, hrow, hqs, hf']
      simp [newRow]
    simp [hb, Result.andThen]
  · refine ⟨⟨_, _, _, rfl⟩, e, sz, 1, cs, upd_same _ _ _, Nat.le_refl _, fun _ => .inl ⟨w.heap.size, upd_same _ _ _, ?_⟩⟩
    show _ = Value.slice _ _ (upd g.cap id len id)
    rw [upd_same, hcl, Nat.mul_div_cancel _ hs0]
  · intro i hi
    rw [upd_ne]
    rintro rfl
    rw [show σ.fx.dfs.contains i = true by simpa using hi] at hdf; cases hdf
theorem MTr.rowNew {P : Program} {all : List Oper} {o : Oper} {os : List Oper} {σ : St} {tm : List FootM} {k : St → List FootM → Prop} {t e sz bb len : Nat} {zs : List Value} {ps : Array (Nat × Operand)} {cs : List CV} (id : Nat) (hop : o.op = .buildSlice t len ps)
    (hes : esize P t = some (e, sz, bb, zs)) (hlen : len ≠ 0 ∧ len * sz ≤ 16777216 ∧ 0 < len * sz ∧ zs.length = sz ∧ zs.all (·.oneCell') = true)
    (hc : guardB all σ.env o = some true ∧ bdst σ o = true ∧ afill (fun i => some (i * sz, sz)) ((zrow zs len).map fun v => .d (.val v)) (ps.toList.map fun p => (p.1, evalS σ.env p.2)) = some cs ∧ cs.length = len * sz ∧ σ.H id = none ∧ σ.fx.dfs.contains id = false)
    (h : MTr P all os ⟨putE σ.env o.dst (.c (.mt id 1)), upd σ.H id (some (.mrow e sz 1 cs)), σ.nx, σ.sz, σ.fx⟩ (⟨[id], [id]⟩ :: tm) k) : MTr P all (o :: os) σ tm k := by
  refine MTr.rule (σ2 := ⟨putE σ.env o.dst (.c (.mt id 1)), upd σ.H id (some (.mrow e sz 1 cs)), σ.nx, σ.sz, σ.fx⟩) [id] [id] (fun _ h => h) _ rfl rfl rfl (fun i hi => upd_ne _ _ (by simpa using hi)) (fun E H hE hH => ?_) h
  obtain ⟨hg, hd, hcs, hcl, hn, hdf⟩ := hc
  have e2 : (ps.toList.map fun p => (p.1, evalS E p.2)) = ps.toList.map fun p => (p.1, evalS σ.env p.2) := List.map_congr_left (fun p hp => by
    rw [reads_op hE (by rw [hop]; simp [Op.operands]; exact ⟨p.1, by simpa using hp⟩)])
  refine GRun.rowNew id hop hes hlen ⟨(guardB_congr hE).trans hg, hd, by rw [e2]; exact hcs, hcl, (hH id (by simp)).trans hn, hdf⟩ (GRun.ret ⟨rfl, ?_, rfl, rfl⟩)
  funext i
  show upd H id _ i = over [id] H (upd σ.H id _) i
  by_cases e : i = id
  · subst e; rw [upd_same, over_in (by simp), upd_same]
  · rw [upd_ne _ _ e, over_out (by simpa using e)]
end Go.Proofs.YtafipkbffboebaaDoor
namespace Go.Proofs.YtafipkbffboebaaDoor
open Go Go.RowKit
set_option linter.unusedVariables false
set_option linter.unusedSimpArgs false
/-- Two operations, of which the first one's value is known exactly. -/
theorem GRun.opr2 {P : Program} {all : List Oper} {o1 o2 : Oper} {os : List Oper} {σ : St} {k : St → Prop} {d1 : Nat} (h1d : o1.dst = some d1) (hnd1 : ∀ c, o1.op ≠ .defer c) (hnd2 : ∀ c, o2.op ≠ .defer c)
    (hc : guardB all σ.env o1 = some true ∧ bdst σ o1 = true ∧ guardB all (putE σ.env (some d1) (.c .any)) o2 = some true ∧ bdst σ o2 = true)
    (h : ∀ F K0 g a w, Rel F K0 g σ a w → ∃ v1, (execOp a.eval o1).run P w = .ok (.value v1) w ∧ ∀ a1, Rel F K0 g ⟨putE σ.env (some d1) (.c .any), σ.H, σ.nx, σ.sz, σ.fx⟩ a1 w → a1.eval (.tmp d1) = v1 →
      ∃ n v w' g' H' x nx', (execOp a1.eval o2).run P w = .ok n w' ∧ (n = .value v ∨ (n = .skip ∧ v = undef)) ∧ RelH F K0 g' H' w' ∧ GLe g σ.H g' H' ∧ RepS g' H' x v ∧ (∀ i ∈ σ.fx.dfs, H' i = σ.H i) ∧
      GRun P all os ⟨putE (putE σ.env (some d1) (.c .any)) o2.dst x, H', nx', σ.sz, σ.fx⟩ k) : GRun P all (o1 :: o2 :: os) σ k := by
  intro F K0 g a w Q hr hk
  obtain ⟨hg, hd, hg2, hd2⟩ := hc
  obtain ⟨v1, hex, hrest⟩ := h F K0 g a w hr
  have hw := guard_wanted (a := a) (fun _ _ _ d _ _ _ => hr.env d) hg
  unfold wpListIn
  rw [hw]
  simp only [if_true]
  refine ⟨fun _ _ => trivial, ?_⟩
  rw [Oper.semAt_eq _ _ _ hnd1, hex]
  have hlt : d1 < σ.sz := by have hd' := bdst_ok hd; unfold dstOk at hd'; rw [h1d] at hd'; exact hd'
  have hupon : ∀ X : Act → World → Prop, X (a.put o1.dst v1) w → Oper.uponIn (fen F.ro) 0 P o1 a X Q (.ok (.value v1) w) := fun X hX => hX
  refine hupon _ ?_
  clear hupon
  rw [h1d]
  have hr1 : Rel F K0 g ⟨putE σ.env (some d1) (.c .any), σ.H, σ.nx, σ.sz, σ.fx⟩ (a.put (some d1) v1) w := by
    refine ⟨hr.mem, fun t' => ?_, by rw [put_size]; exact hr.size, ?_, hr.ln, hr.rd, hr.nodup, hr.lt⟩
    · exact env_put (d := some d1) (x := .c .any) hr.env trivial hr.size (fun t ht => by cases ht; exact hlt) t'
    · show DefsRel _ _ σ.fx.dfs _
      rw [put_def]; exact hr.defers
  have hev : (a.put (some d1) v1).eval (.tmp d1) = v1 := by
    show (a.put (some d1) _).tmps.getD d1 undef = _
    rw [put_getD, if_pos ⟨rfl, by rw [hr.size]; exact hlt⟩]
  generalize a.put (some d1) v1 = a1 at *
  obtain ⟨n, v, w', g', H', x, nx', hex2, hn, hm, hle, hv, hdf, hgo⟩ := hrest a1 hr1 hev
  have hw2 := guard_wanted (a := a1) (fun _ _ _ d _ _ _ => hr1.env d) hg2
  unfold wpListIn
  rw [hw2]
  simp only [if_true]
  refine ⟨fun _ _ => trivial, ?_⟩
  rw [Oper.semAt_eq _ _ _ hnd2, hex2]
  have hupon : ∀ X : Act → World → Prop, X (a1.put o2.dst v) w' → Oper.uponIn (fen F.ro) 0 P o2 a1 X Q (.ok n w') := fun X hX => by
    rcases hn with rfl | ⟨rfl, rfl⟩ <;> exact hX
  refine hupon _ ?_
  refine hgo F K0 g' _ w' Q ⟨hm, fun t => ?_, by rw [put_size]; exact hr1.size, ?_, hr1.ln, hr1.rd, hr1.nodup, hr1.lt⟩ hk
  · have hd' := bdst_ok hd2
    unfold dstOk at hd'
    exact env_put (d := o2.dst) (fun t => (hr1.env t).mono hle) hv hr1.size (fun t ht => by rw [ht] at hd'; exact hd') t
  · show DefsRel _ _ σ.fx.dfs _
    rw [put_def]
    exact DefsRel.mono' hle hdf hr1.defers
theorem upd_dfs {σ : St} {id : Nat} {x : Option HE} (hdf : σ.fx.dfs.contains id = false) : ∀ i ∈ σ.fx.dfs, upd σ.H id x i = σ.H i := fun i hi => by
  rw [upd_ne]
  rintro rfl
  rw [show σ.fx.dfs.contains i = true by simpa using hi] at hdf; cases hdf
theorem run_slice2 {P : Program} {t e : TypeId} {j : TypeInfo} (hu : P.underlying t = some (.slice e)) (hj : P.info? e = some j) (a : Option Addr) (len cap l h : Nat) (lo hi : Option Value) (w : World)
    (hlo : (lo = none ∧ l = 0) ∨ ∃ k, lo = some (.int k l)) (hhi : (hi = none ∧ h = len) ∨ ∃ k, hi = some (.int k h)) (h1 : l ≤ h) (h2 : h ≤ len) (h3 : len ≤ cap) :
    (Instr.sliceAt t (.slice a len cap) lo hi none).run P w = .ok (.slice (if cap = l then a else a.map (·.add (l * j.size))) (h - l) (cap - l)) w := by
  have hb : (Instr.sliceBounds true len cap lo hi none).run P w = .ok (l, h, cap) w := by
    unfold Instr.sliceBounds
    rcases hhi with ⟨rfl, rfl⟩ | ⟨k, rfl⟩ <;> rcases hlo with ⟨rfl, rfl⟩ | ⟨k', rfl⟩
    · simp
    · simp [run_sliceBound (P := P) h1]
    · simp [run_sliceBound (P := P) (show h ≤ cap by omega)]
    · simp [run_sliceBound (P := P) (show h ≤ cap by omega), run_sliceBound (P := P) h1]
  unfold Instr.sliceAt Instr.slice
  simp only [Sem.run_bind, run_underlying hu, Result.andThen_ok, hb, run_sizeOf hj, Sem.run_pure]
/-- What stands in a row of one's own. -/
theorem mt_cells {W0 : Fr} {K0 : Know} {g : G} {H : Hp} {w : World} {τ e sz n : Nat} {cs : List CV} {v : Value} (hh : RelH W0 K0 g H w) (hτ : H τ = some (.mrow e sz n cs)) (hx : RepC g H (.mt τ n) v) (h0 : cs ≠ []) :
    ∃ b cur vs rest, v = .slice (some ⟨b, 0, none⟩) (cs.length / sz) (g.cap τ) ∧ g.β τ = some b ∧ w.heap[b]? = some (.cells cur e (0, 0)) ∧ cur.toList = vs ++ rest ∧ cur.size = g.cap τ * sz ∧ RepCs g H cs vs ∧ ∀ u ∈ vs, u.oneCell' = true := by
  obtain ⟨_, e2, s2, n2, c2, h2, _, h4⟩ := hx
  rw [hτ] at h2; cases h2
  obtain ⟨_, _, hcase⟩ := hh.holds τ _ hτ
  obtain ⟨b, cur, vs, rest, hb, h6, h7, h8, h9, h10, _⟩ := hcase.resolve_left (fun h => h0 h.2)
  rcases h4 rfl with ⟨b2, hb2, rfl⟩ | ⟨hb2, _⟩
  · rw [hb] at hb2; cases hb2
    exact ⟨b, cur, vs, rest, rfl, hb, h6, h7, h8, h9, h10⟩
  · rw [hb] at hb2; cases hb2
/-- clear(s[i:]) -/
theorem GRun.mclr {P : Program} {all : List Oper} {o1 o2 : Oper} {os : List Oper} {σ : St} {k : St → Prop} {t d1 : Nat} {x y : Operand} {e sz bb τ n i : Nat} {zs : List Value} {cs : List CV} (h1 : o1.op = .slice t x (some y) none none) (h1d : o1.dst = some d1) (h2 : o2.op = .call { callee := .builtin .clear, args := #[.tmp d1], argTypes := #[t] }) (h2d : o2.dst = none)
    (hes : esize P t = some (e, sz, bb, zs)) (hz : zs.all (·.oneCell') = true ∧ zs.length = sz)
    (hc : guardB all σ.env o1 = some true ∧ bdst σ o1 = true ∧ evalS σ.env x = .c (.mt τ n) ∧ (evalS σ.env y).nat = some i ∧ σ.H τ = some (.mrow e sz n cs) ∧ σ.fx.dfs.contains τ = false)
    (hi : (i + 1) * sz ≤ cs.length) (hc2 : guardB all (putE σ.env (some d1) (.c .any)) o2 = some true)
    (h : GRun P all os ⟨putE σ.env (some d1) (.c .any), upd σ.H τ (some (.mrow e sz n (cs.take (i * sz) ++ (zrow zs (cs.length / sz - i)).map fun v => .d (.val v)))), σ.nx, σ.sz, σ.fx⟩ k) : GRun P all (o1 :: o2 :: os) σ k := by
  obtain ⟨hg, hd, hx, hy, hτ, hdf⟩ := hc
  obtain ⟨hz1, hz2⟩ := hz
  refine GRun.opr2 h1d (by rw [h1]; intro c hc; cases hc) (by rw [h2]; intro c hc; cases hc) ⟨hg, hd, hc2, by unfold bdst; rw [h2d]⟩ fun F K0 g a w hr => ?_
  obtain ⟨hu, j, z, u, hj, hzz, hs, hby, hzs, _⟩ := esize_spec hes
  obtain ⟨hs0, hmod, _⟩ := hr.mem.holds τ _ hτ
  have hv := evalS_rep hr x
  rw [hx] at hv
  have h0 : cs ≠ [] := fun q => by subst q; rw [Nat.succ_mul] at hi; simp at hi; omega
  obtain ⟨b, cur, vs, rest, hv, hb, hheap, hcur, hcsz, hrr, h1c⟩ := mt_cells hr.mem hτ hv h0
  obtain ⟨ky, hvy⟩ := SV.nat_rep (evalS_rep hr y) hy
  have hvl := hrr.1
  have hcl : cur.size = vs.length + rest.length := by rw [← Array.length_toList, hcur, List.length_append]
  obtain ⟨q, hq⟩ : ∃ q, cs.length = q * sz := ⟨cs.length / sz, (Nat.div_mul_cancel (Nat.dvd_of_mod_eq_zero hmod)).symm⟩
  have hqd : cs.length / sz = q := by rw [hq, Nat.mul_div_cancel _ hs0]
  have hiq : i + 1 ≤ q := Nat.le_of_mul_le_mul_right (by rw [← hq]; exact hi) hs0
  have hqc : q ≤ g.cap τ := Nat.le_of_mul_le_mul_right (by rw [← hq, ← hcsz]; omega) hs0
  have hnc : ¬ g.cap τ = i := by omega
  refine ⟨.slice (some ⟨b, i * sz, none⟩) (q - i) (g.cap τ - i), ?_, fun a1 hr1 hev => ?_⟩
  · unfold execOp; rw [h1]
    have := run_slice2 (P := P) hu hj (some ⟨b, 0, none⟩) q (g.cap τ) i q (some (.int ky i)) none w (.inr ⟨ky, rfl⟩) (.inl ⟨rfl, rfl⟩) (by omega) (Nat.le_refl _) hqc
    rw [hqd] at hv
    simp only [Option.map_some, Option.map_none, hv, hvy]
    simp [this, hs, hnc, Result.andThen, Addr.add_lit]
  · have hZ : (Builtin.zeroCells z.cells (q - i)).toList = zrow zs (q - i) := by
      rw [zrow_eq zs (by omega), hzs]
      simp [zeroRow, Builtin.zeroCells]
    have hzc : z.cells.size = sz := by rw [← hz2, hzs]; simp
    have hlen : i * sz + (q - i) * sz = vs.length := by rw [← Nat.add_mul, show i + (q - i) = q by omega, ← hq, hvl]
    have hzl : (zrow zs (q - i)).length = (q - i) * sz := by rw [zrow_len, hz2]
    have hrun := run_clear_rowS (P := P) w t e o2.type z b (i * sz) (q - i) (g.cap τ - i) cur e hu (fun w => by simp [zeroValue, typeInfo, hj, hzz]) (fun v hv => List.all_eq_true.1 hz1 v (by rw [hzs]; simpa using hv)) hheap (by rw [hzc, hcl]; omega) (by omega)
    rw [hZ, hzc] at hrun
    have hnew : (cur.toList.take (i * sz) ++ zrow zs (q - i) ++ cur.toList.drop (i * sz + (q - i) * sz)).toArray.toList = (vs.take (i * sz) ++ zrow zs (q - i)) ++ rest := by
      simp only [List.toList_toArray, hcur, hlen]
      rw [List.take_append_of_le_length (by omega), List.drop_left' rfl]
    have hrep : RepCs g σ.H (cs.take (i * sz) ++ (zrow zs (q - i)).map fun v => .d (.val v)) (vs.take (i * sz) ++ zrow zs (q - i)) := (hrr.take _).app (vals_rep g σ.H _)
    obtain ⟨h5, h6⟩ := hr1.mem.mwr (cs' := cs.take (i * sz) ++ (zrow zs (q - i)).map fun v => .d (.val v)) hτ hb hheap (by rw [List.length_append, List.length_take, List.length_map, hzl]; omega) hnew (by
      rw [← Array.length_toList, hnew, List.length_append, List.length_append, List.length_take, hzl, hcl]; omega) hrep (fun u hu => by
        rcases List.mem_append.1 hu with hu | hu
        · exact h1c u (List.mem_of_mem_take hu)
        · rw [← hZ] at hu; exact zero_ones (fun v hv => List.all_eq_true.1 hz1 v (by rw [hzs]; simpa using hv)) u hu)
    rw [hqd] at h
    refine ⟨_, .tuple #[], _, _, _, .c .any, σ.nx, ?_, .inl rfl, h5, h6, trivial, upd_dfs hdf, by rw [h2d]; exact h⟩
    unfold execOp; rw [h2]
    simp [resolve, invoke, builtin, hev, hrun, Result.andThen]
/-- s[:i] -/
theorem GRun.mcut {P : Program} {all : List Oper} {o : Oper} {os : List Oper} {σ : St} {k : St → Prop} {t : TypeId} {x y : Operand} {e sz bb τ n i : Nat} {zs : List Value} {cs : List CV} (hop : o.op = .slice t x none (some y) none)
    (hes : esize P t = some (e, sz, bb, zs))
    (hc : guardB all σ.env o = some true ∧ bdst σ o = true ∧ evalS σ.env x = .c (.mt τ n) ∧ (evalS σ.env y).nat = some i ∧ σ.H τ = some (.mrow e sz n cs) ∧ σ.fx.dfs.contains τ = false)
    (hi : i * sz ≤ cs.length) (h0 : cs ≠ [])
    (h : GRun P all os ⟨putE σ.env o.dst (.c (.mt τ (n + 1))), upd σ.H τ (some (.mrow e sz (n + 1) (cs.take (i * sz)))), σ.nx, σ.sz, σ.fx⟩ k) : GRun P all (o :: os) σ k := by
  obtain ⟨hg, hd, hx, hy, hτ, hdf⟩ := hc
  refine GRun.opr hg hd (by rw [hop]; intro c hc; cases hc) fun F K0 g a w hr => ?_
  obtain ⟨hu, j, z, u, hj, hzz, hs, hby, hzs, _⟩ := esize_spec hes
  obtain ⟨hs0, hmod, _⟩ := hr.mem.holds τ _ hτ
  have hv := evalS_rep hr x
  rw [hx] at hv
  obtain ⟨b, cur, vs, rest, hv, hb, hheap, hcur, hcsz, hrr, h1c⟩ := mt_cells hr.mem hτ hv h0
  obtain ⟨ky, hvy⟩ := SV.nat_rep (evalS_rep hr y) hy
  have hvl := hrr.1
  have hcl : cur.size = vs.length + rest.length := by rw [← Array.length_toList, hcur, List.length_append]
  obtain ⟨q, hq⟩ : ∃ q, cs.length = q * sz := ⟨cs.length / sz, (Nat.div_mul_cancel (Nat.dvd_of_mod_eq_zero hmod)).symm⟩
  have hqd : cs.length / sz = q := by rw [hq, Nat.mul_div_cancel _ hs0]
  have hiq : i ≤ q := Nat.le_of_mul_le_mul_right (by rw [← hq]; exact hi) hs0
  have hqc : q ≤ g.cap τ := Nat.le_of_mul_le_mul_right (by rw [← hq, ← hcsz]; omega) hs0
  have hset := setRow_self w b cur e (0, 0) hheap
  obtain ⟨h5, h6⟩ := hr.mem.mset (n' := n + 1) (cs' := cs.take (i * sz)) (cur' := cur) (vs := vs.take (i * sz)) (rest := vs.drop (i * sz) ++ rest) hτ hb hheap (Nat.lt_succ_self n) (by rw [List.length_take, Nat.min_eq_left hi, Nat.mul_mod_left]) (by rw [← List.append_assoc, List.take_append_drop]; exact hcur) rfl (hrr.take _) (fun u hu => h1c u (List.mem_of_mem_take hu))
  rw [hset] at h5
  have hrun := run_slice2 (P := P) hu hj (some ⟨b, 0, none⟩) q (g.cap τ) 0 i none (some (.int ky i)) w (.inl ⟨rfl, rfl⟩) (.inr ⟨ky, rfl⟩) (Nat.zero_le _) hiq hqc
  rw [hqd] at hv
  have hv0 : (if g.cap τ = 0 then (some (⟨b, 0, none⟩ : Addr)) else some ⟨b, 0, none⟩) = some ⟨b, 0, none⟩ := by split <;> rfl
  refine ⟨_, .slice (some ⟨b, 0, none⟩) i (g.cap τ), w, _, _, .c (.mt τ (n + 1)), σ.nx, ?_, .inl rfl, h5, h6, ?_, upd_dfs hdf, h⟩
  · unfold execOp; rw [hop]
    simp [hv, hvy, hrun, Result.andThen, Addr.add_lit, hv0]
  · refine ⟨⟨_, _, _, rfl⟩, e, sz, n + 1, _, upd_same _ _ _, Nat.le_refl _, fun _ => .inl ⟨b, upd_same _ _ _, ?_⟩⟩
    show _ = Value.slice _ _ (upd g.cap τ (g.cap τ) τ)
    rw [upd_same, List.length_take, Nat.min_eq_left hi, Nat.mul_div_cancel _ hs0]
end Go.Proofs.YtafipkbffboebaaDoor
namespace Go.Proofs.YtafipkbffboebaaDoor
open Go Go.RowKit
set_option maxHeartbeats 4000000
set_option maxRecDepth 100000
set_option linter.unusedVariables false
set_option linter.unusedSimpArgs false
def idxF {α : Type} (pr : α → Bool) (l : List α) : Int := if l.any pr then (l.findIdx pr : Nat) else -1
theorem idxRow_fun (l : List RowD) (f : Nat) (caps : List D) (pr : RowD → Bool) (hl : l.length ≤ 1000000) (hf : ∀ x ∈ l, Fun Tryd.prog f (.agg x.dv :: caps) (boo (pr x))) :
    Fun Tryd.prog 114 [.lst 5 (l.map RowD.dv), .fn (.func f) caps] (int (idxF pr l)) := by
  (refine Fun.of_body Tryd.func114 rfl rfl Tryd.ntmps114 Tryd.results114 (by simp) ?_)
  (refine gO0 ?_; try (with_reducible exact True.intro))
  refine Wp.loop (fun k : Nat => ⟨ofL [(0, .c (.d (.lst 5 (l.map RowD.dv)))), (1, .c (.d (.fn (.func f) caps))), (6, .c (.d (.lst 5 (l.map RowD.dv)))), (7, vi .i64 l.length), (8, vi .i64 k)], ofH [], 0, 19, 0⟩) (fun k => k ≤ l.length ∧ (l.take k).any pr = false) (fun k => l.length - k) 0 ⟨Nat.zero_le _, rfl⟩ ?_ ?_
  · refine Weak.keep rfl rfl ?_
    (refine rO0 ?_; try (with_reducible exact True.intro))
  rintro k ⟨hk, hall⟩
  (refine gO0 ?_; try (with_reducible exact True.intro))
  refine Wp.cond (by (refine rO0 ?_; try (with_reducible exact True.intro)); rfl) (fun h => ?_) (fun h => ?_)
  · have hlt : k < l.length := by simpa using h
    have c1 := hf l[k] (List.getElem_mem hlt)
    have hs := any_take_in pr l k hlt
    have hix : pr l[k] = true → idxF pr l = k := fun hp => by
      unfold idxF
      rw [if_pos (List.any_eq_true.2 ⟨l[k], List.getElem_mem hlt, hp⟩), Int.ofNat_inj, List.findIdx_eq hlt]
      refine ⟨hp, fun j hj => ?_⟩
      have := List.any_eq_false.1 hall (l[j]) (by rw [List.mem_take_iff_getElem]; exact ⟨j, by omega, rfl⟩)
      simpa using this
    have hge : l[k]? = some l[k] := List.getElem?_eq_getElem hlt
    generalize l[k] = p at *
    simp only [RowD.dv] at c1
    (refine gO (And.intro hge (@RowD.dv.eq_1)) ?_; try (with_reducible exact True.intro))
    refine Wp.cond (by (refine rO0 ?_; try (with_reducible exact True.intro)); rfl) (fun h => ?_) (fun h => ?_)
    · have h1 := hix h
      (refine gO0 ?_; try (with_reducible exact True.intro))
      (refine rO (h1) ?_; try (with_reducible exact True.intro))
    · (refine gO0 ?_; try (with_reducible exact True.intro))
      refine ⟨k + 1, ⟨by omega, by rw [hs, hall, h]; rfl⟩, by omega, Weak.keep rfl rfl ?_⟩
      (refine rO0 ?_; try (with_reducible exact True.intro))
  · have hall : l.any pr = false := by
      rw [List.take_of_length_le (by simp only [decide_eq_false_iff_not] at h; omega)] at hall; exact hall
    have h1 : idxF pr l = -1 := by unfold idxF; rw [hall]; rfl
    (refine gO0 ?_; try (with_reducible exact True.intro))
    (refine rO (h1) ?_; try (with_reducible exact True.intro))
theorem rowsC_drop : ∀ (l : List RowD) (i : Nat), (rowsC l).drop (i * 5) = rowsC (l.drop i)
  | [], i => by simp [rowsC]
  | o :: l, 0 => by simp [rowsC]
  | o :: l, i + 1 => by
    have ih := rowsC_drop l i
    unfold rowsC at ih ⊢
    rw [List.map_cons, List.flatten_cons, List.map_append, List.drop_succ_cons, ← ih, show (i + 1) * 5 = 5 + i * 5 by omega, List.drop_append]
    simp [RowD.dv]
theorem rowsC_take : ∀ (l : List RowD) (i : Nat), (rowsC l).take (i * 5) = rowsC (l.take i)
  | [], i => by simp [rowsC]
  | o :: l, 0 => by simp [rowsC]
  | o :: l, i + 1 => by
    have ih := rowsC_take l i
    unfold rowsC at ih ⊢
    rw [List.map_cons, List.flatten_cons, List.map_append, List.take_succ_cons, List.map_cons, List.flatten_cons, List.map_append, ← ih, show (i + 1) * 5 = 5 + i * 5 by omega, List.take_append, List.take_of_length_le (by simp [RowD.dv])]
    simp [RowD.dv]
theorem rowsC_cat (a b : List RowD) : rowsC (a ++ b) = rowsC a ++ rowsC b := by simp [rowsC]
theorem rowsC_at (l : List RowD) (j : Nat) (hj : j < l.length) : ((rowsC l).drop (j * 5)).take 5 = l[j].dv.map CV.d := by
  rw [rowsC_drop, List.drop_eq_getElem_cons hj]
  show (List.map CV.d (l[j].dv ++ _)).take 5 = _
  rw [List.map_append]
  exact List.take_left' rfl
theorem rowsC_put (l : List RowD) (i : Nat) (r : RowD) (hi : i < l.length) : splice (rowsC l) (i * 5) (r.dv.map CV.d) = rowsC (l.take i ++ r :: l.drop (i + 1)) := by
  unfold splice
  rw [rowsC_cat, ← rowsC_take, show i * 5 + (r.dv.map CV.d).length = (i + 1) * 5 by simp [RowD.dv]; omega, rowsC_drop]
  simp [rowsC]
def cutV (pr : RowD → Bool) (l : List RowD) (v : Nat) : Nat := if l.any pr then v + 1 else v
def keepF (pr : RowD → Bool) (l : List RowD) : List RowD := l.filter fun r => !pr r
abbrev dfS (vr f : Nat) (caps : List D) (i j : Nat) (cur : List RowD) : St := ⟨ofL [(0, .c (.mt 9 vr)), (1, .c (.d (.fn (.func f) caps))), (5, vi .i64 i), (6, vi .i64 j)], ofH [(9, .mrow 36 5 vr (rowsC cur))], 1000, 42, ⟨[9], [], false, none⟩⟩
structure DfOk (pr : RowD → Bool) (l : List RowD) (i j : Nat) (cur : List RowD) : Prop where
  hl : cur.length = l.length
  hij : i < j
  hj : j ≤ l.length
  done : cur.take i = keepF pr (l.take j)
  rest : cur.drop j = l.drop j
theorem okG_row {args : List SV} {r : SV} {e v v' : Nat} {l l' : List RowD} (ha : (args.all fun a => subB a.ids [9]) = true) (hr : subB r.ids [9] = true) : okG args r [(9, .mrow e 5 v (rowsC l))] [(9, .mrow e 5 v' (rowsC l'))] = true := by
  have e1 : ∀ (v : Nat) (l : List RowD), okB [9] [(9, .mrow e 5 v (rowsC l))] = true := fun v l => by
    unfold okB
    simp only [List.all_cons, List.all_nil, HE.ids, rowsC, ids_plain]
    rfl
  unfold okG
  simp only [List.map_cons, List.map_nil, e1, ha, hr]
  rfl
theorem okIds_row {L : List (Nat × SV)} {e v : Nat} {l : List RowD} (h : (L.all fun p => p.2.ids.all fun i => [9].contains i) = true) : (okIds L [(9, .mrow e 5 v (rowsC l))] && keepsLent ⟨[9], [], false, none⟩ [(9, .mrow e 5 v (rowsC l))]) = true := by
  unfold okIds
  simp only [List.map_cons, List.map_nil, h, HE.ids, rowsC, ids_plain, List.all_cons, List.all_nil, Bool.and_true, Bool.true_and]
  rfl
theorem snap_rows (l : List RowD) (vr : Nat) : CV.snap (ofH [(9, .mrow 36 5 vr (rowsC l))]) 3 (.mt 9 vr) = some (.lst 5 (l.map RowD.dv)) :=
  snap_plain (e := 36) (l.map RowD.dv) (by decide) (fun x hx => by obtain ⟨b, _, rfl⟩ := List.mem_map.1 hx; rfl) rfl
theorem delF_fun (l : List RowD) (vr f : Nat) (caps : List D) (pr : RowD → Bool) (hl : l.length ≤ 1000000) (hf : ∀ x ∈ l, Fun Tryd.prog f (.agg x.dv :: caps) (boo (pr x))) :
    FunG Tryd.prog 88 [.c (.mt 9 vr), .c (.d (.fn (.func f) caps))] [9] (ofH [(9, .mrow 36 5 vr (rowsC l))]) (.c (.mt 9 (cutV pr l vr))) [9] (ofH [(9, .mrow 36 5 (cutV pr l vr) (rowsC (keepF pr l)))]) := by
  have c1 := idxRow_fun l f caps pr hl hf
  have hcl := rowsC_len l
  refine FunG.of_bodyH rfl rfl Tryd.func88 rfl rfl Tryd.ntmps88 Tryd.results88 (Nat.le_of_ble_eq_true rfl) (okG_row rfl rfl) ?_
  (refine gO (@GRUN) ?_; try (with_reducible exact True.intro))
  refine Wp.reg (fun K hK => ?_)
  (refine rO (And.intro @GRUN (And.intro @CV.toD.eq_1 (And.intro @CV.toD.eq_2 (And.intro @CV.toD.eq_3 (And.intro @CV.toD.eq_4 (And.intro @CV.toD.eq_5 (And.intro @CV.toD.eq_6 (And.intro @CV.toD.eq_7 (And.intro @CV.toD.eq_8 (And.intro @CV.toD.eq_9 (And.intro @CV.toD.eq_10 (And.intro @CV.toD.eq_11 (@CV.toD.eq_12))))))))))))) ?_; try (with_reducible exact True.intro))
  refine bcall_s c1 rfl (by rw [show SV.snap (ofH [(9, .mrow 36 5 vr (rowsC l))]) = SV.snap (ofH [(9, .mrow 36 5 vr (rowsC l))]) from rfl]; simp only [mapO, SV.snap, snap_rows l vr, snap_d, Option.map_some, List.append_nil]) ?_
  (refine rO (@GRUN) ?_; try (with_reducible exact True.intro))
  refine hK _ ?_
  clear hK K
  (refine gO (@GRUN) ?_; try (with_reducible exact True.intro))
  refine Wp.cond (by (refine rO0 ?_; try (with_reducible exact True.intro)); rfl) (fun h => ?_) (fun h => ?_)
  · have hany : l.any pr = false := by
      cases ha : l.any pr with
      | false => rfl
      | true => unfold idxF at h; rw [if_pos ha] at h; simp at h
    have h1 : cutV pr l vr = vr := by unfold cutV; rw [hany]; rfl
    have h2 : keepF pr l = l := by
      unfold keepF
      rw [List.filter_eq_self]
      intro r hr
      have := List.any_eq_false.1 hany r hr
      simpa using this
    (refine gO (@GRUN) ?_; try (with_reducible exact True.intro))
    refine bodyQG.ret ?_
    (refine rO (And.intro @GRUN (And.intro @endB.eq_1 (And.intro @endB.eq_2 (And.intro h1 (h2))))) ?_; try (with_reducible exact True.intro))
  · have hany : l.any pr = true := by
      cases ha : l.any pr with
      | true => rfl
      | false => unfold idxF at h; rw [ha] at h; simp at h
    obtain ⟨i0, hi0⟩ : ∃ i0, i0 = l.findIdx pr := ⟨_, rfl⟩
    have hix : idxF pr l = (i0 : Int) := by unfold idxF; rw [if_pos hany, hi0]
    have hlt : i0 < l.length := by rw [hi0]; exact List.findIdx_lt_length.2 (by obtain ⟨x, hx, hp⟩ := List.any_eq_true.1 hany; exact ⟨x, hx, hp⟩)
    have hpi : pr l[i0] = true := by subst hi0; exact List.findIdx_getElem
    have hbefore : keepF pr (l.take i0) = l.take i0 := by
      unfold keepF
      rw [List.filter_eq_self]
      intro r hr
      obtain ⟨j, hj, rfl⟩ := List.mem_take_iff_getElem.1 hr
      have := List.not_of_lt_findIdx (p := pr) (xs := l) (i := j) (by omega)
      simpa using this
    rw [hix]
    have h1 : cutV pr l vr = vr + 1 := by unfold cutV; rw [hany]; rfl
    rw [h1]
    have hw0 : IntKind.i64.wrap ((i0 : Int) + 1) = ((i0 + 1 : Nat) : Int) := by rw [wrap_i64 (by omega)]; rfl
    (refine gO (And.intro @GRUN (hw0)) ?_; try (with_reducible exact True.intro))
    refine Wp.loop (fun s : Nat × Nat × List RowD => dfS vr f caps s.1 s.2.1 s.2.2) (fun s => DfOk pr l s.1 s.2.1 s.2.2) (fun s => l.length - s.2.1) (i0, i0 + 1, l) ⟨rfl, Nat.lt_succ_self i0, hlt, by
      show l.take i0 = keepF pr (l.take (i0 + 1))
      rw [List.take_succ_eq_append_getElem hlt]
      unfold keepF at hbefore ⊢
      rw [List.filter_append, hbefore]; simp [hpi], rfl⟩ ?_ ?_
    · refine Weak.keep rfl (okIds_row rfl) ?_
      (refine rO (@GRUN) ?_; try (with_reducible exact True.intro))
    rintro ⟨i, j, cur⟩ ⟨hcl1, hij, hj, hd, hrest⟩
    simp only at hcl1 hij hj hd hrest
    have hcl2 := rowsC_len cur
    (refine gO (@GRUN) ?_; try (with_reducible exact True.intro))
    refine Wp.cond (by (refine rO0 ?_; try (with_reducible exact True.intro)); rfl) (fun h => ?_) (fun h => ?_)
    · have hlt2 : j < l.length := by
        rw [decide_eq_true_eq, hcl2, hcl1, Nat.mul_div_cancel _ (by decide)] at h; omega
      have hltc : j < cur.length := by omega
      have hcj : cur[j] = l[j] := by
        have e1 := congrArg (fun x => x[0]?) hrest
        simp only [List.getElem?_drop, Nat.add_zero] at e1
        rw [List.getElem?_eq_getElem hltc, List.getElem?_eq_getElem hlt2] at e1
        exact Option.some.inj e1
      have hdt := rowsC_at cur j hltc
      rw [hcj] at hdt
      have c2 := hf l[j] (List.getElem_mem hlt2)
      have hsp := rowsC_put cur i l[j] (by omega)
      have hd' : keepF pr (l.take (j + 1)) = keepF pr (l.take j) ++ keepF pr [l[j]] := by
        rw [List.take_succ_eq_append_getElem hlt2]; exact List.filter_append ..
      have hrest' : cur.drop (j + 1) = l.drop (j + 1) := by
        have := congrArg (List.drop 1) hrest
        rw [List.drop_drop, List.drop_drop] at this; exact this
      have hle1 : j * 5 + 5 ≤ (rowsC cur).length := by omega
      have hle2 : i * 5 + 5 ≤ (rowsC cur).length := by omega
      generalize l[j] = r at *
      simp only [RowD.dv, List.map_cons, List.map_nil, splice, List.length_cons, List.length_nil] at c2 hdt hsp
      have hsp' : List.take (i * 5) (rowsC cur) ++ [CV.d (int r.off), CV.d (int r.pid), CV.d (int r.seq), CV.d (str r.key), CV.d (str r.value)] ++ List.drop (i * 5 + 5) (rowsC cur) = rowsC (List.take i cur ++ r :: List.drop (i + 1) cur) := hsp
      clear hsp
      have hwi : IntKind.i64.wrap ((i : Int) + 1) = ((i + 1 : Nat) : Int) := by rw [wrap_i64 (by omega)]; rfl
      have hwj : IntKind.i64.wrap ((j : Int) + 1) = ((j + 1 : Nat) : Int) := by rw [wrap_i64 (by omega)]; rfl
      (refine gO (And.intro @GRUN (And.intro hle1 (hdt))) ?_; try (with_reducible exact True.intro))
      refine Wp.cond (by (refine rO0 ?_; try (with_reducible exact True.intro)); rfl) (fun h => ?_) (fun h => ?_)
      · (refine gO (And.intro @GRUN (And.intro hle2 (And.intro hsp' (And.intro hwi (hwj))))) ?_; try (with_reducible exact True.intro))
        have hpr : pr r = false := by simpa using h
        have hti : (cur.take i).length = i := by rw [List.length_take]; omega
        refine ⟨(i + 1, j + 1, cur.take i ++ r :: cur.drop (i + 1)), ⟨by rw [List.length_append, List.length_cons, hti, List.length_drop, hcl1]; omega, by show i + 1 < j + 1; omega, by show j + 1 ≤ _; omega, ?_, ?_⟩, by show l.length - (j + 1) < l.length - j; omega, Weak.keep rfl (okIds_row rfl) ?_⟩
        · show (cur.take i ++ r :: cur.drop (i + 1)).take (i + 1) = keepF pr (l.take (j + 1))
          rw [hd', ← hd, List.take_append, hti, List.take_of_length_le (by omega), show i + 1 - i = 1 by omega]
          simp [keepF, hpr]
        · show (cur.take i ++ r :: cur.drop (i + 1)).drop (j + 1) = l.drop (j + 1)
          rw [List.drop_append, hti, List.drop_of_length_le (by omega), List.nil_append, show j + 1 - i = (j - i) + 1 by omega, List.drop_succ_cons, List.drop_drop, ← hrest']
          congr 1; omega
        · (refine rO (@GRUN) ?_; try (with_reducible exact True.intro))
      · have hpr : pr r = true := by simpa using h
        (refine gO (And.intro @GRUN (hwj)) ?_; try (with_reducible exact True.intro))
        refine ⟨(i, j + 1, cur), ⟨hcl1, by show i < j + 1; omega, by show j + 1 ≤ _; omega, ?_, hrest'⟩, by show l.length - (j + 1) < l.length - j; omega, Weak.keep rfl (okIds_row rfl) ?_⟩
        · show cur.take i = keepF pr (l.take (j + 1))
          rw [hd', ← hd]; simp [keepF, hpr]
        · (refine rO (@GRUN) ?_; try (with_reducible exact True.intro))
    · have hje : j = l.length := by
        rw [decide_eq_false_iff_not, hcl2, hcl1, Nat.mul_div_cancel _ (by decide)] at h; omega
      have hkeep : cur.take i = keepF pr l := by rw [hd, hje, List.take_length]
      have hne : rowsC cur ≠ [] := fun q => by rw [q] at hcl2; simp at hcl2; omega
      have hes : esize Tryd.prog 42 = some (36, 5, 56, [.int .i64 0, .int .i64 0, .int .i64 0, .string ⟨#[]⟩, .string ⟨#[]⟩]) := by (refine rO0 ?_; try (with_reducible exact True.intro))
      have hi5 : (i + 1) * 5 ≤ (rowsC cur).length := by omega
      have hi5' : i * 5 ≤ ((rowsC cur).take (i * 5) ++ (zrow [.int .i64 0, .int .i64 0, .int .i64 0, .string ⟨#[]⟩, .string ⟨#[]⟩] ((rowsC cur).length / 5 - i)).map fun v => CV.d (.val v)).length := by
        rw [List.length_append, List.length_take]; omega
      have hne' : ((rowsC cur).take (i * 5) ++ (zrow [.int .i64 0, .int .i64 0, .int .i64 0, .string ⟨#[]⟩, .string ⟨#[]⟩] ((rowsC cur).length / 5 - i)).map fun v => CV.d (.val v)) ≠ [] := fun q => by
        have := congrArg List.length q
        rw [List.length_append, List.length_map, zrow_len, hcl2, Nat.mul_div_cancel _ (by decide)] at this
        simp at this; omega
      have htk : ((rowsC cur).take (i * 5) ++ (zrow [.int .i64 0, .int .i64 0, .int .i64 0, .string ⟨#[]⟩, .string ⟨#[]⟩] ((rowsC cur).length / 5 - i)).map fun v => CV.d (.val v)).take (i * 5) = rowsC (keepF pr l) := by
        rw [List.take_append_of_le_length (by rw [List.length_take]; omega), List.take_take, Nat.min_self, rowsC_take, hkeep]
      (refine gO (@GRUN) ?_; try (with_reducible exact True.intro))
      (first | refine Wp.sregG ?_ | refine Wp.regG ?_ | (refine Wp.seq ?_; first | refine Wp.sregG ?_ | refine Wp.regG ?_))
      (refine GRun.at 2 (fun K hK => ?_); (refine rO (@GRUN) ?_; try (with_reducible exact True.intro)); refine hK _ ?_; clear hK K)
      refine GRun.mclr (i := i) (τ := 9) (n := vr) (cs := rowsC cur) rfl rfl rfl rfl hes ⟨by decide, rfl⟩ ⟨by (refine rO (@GRUN) ?_; try (with_reducible exact True.intro)), by (refine rO (@GRUN) ?_; try (with_reducible exact True.intro)), by (refine rO (@GRUN) ?_; try (with_reducible exact True.intro)), by (refine rO (@GRUN) ?_; try (with_reducible exact True.intro)), by (refine rO (@GRUN) ?_; try (with_reducible exact True.intro)), rfl⟩ hi5 (by (refine rO (@GRUN) ?_; try (with_reducible exact True.intro))) ?_
      refine GRun.ret ?_
      generalize ((rowsC cur).take (i * 5) ++ (zrow [.int .i64 0, .int .i64 0, .int .i64 0, .string ⟨#[]⟩, .string ⟨#[]⟩] ((rowsC cur).length / 5 - i)).map fun v => CV.d (.val v)) = Z at *
      (first | refine Wp.sregG ?_ | refine Wp.regG ?_ | (refine Wp.seq ?_; first | refine Wp.sregG ?_ | refine Wp.regG ?_))
      (refine GRun.at 2 (fun K hK => ?_); (refine rO (@GRUN) ?_; try (with_reducible exact True.intro)); refine hK _ ?_; clear hK K)
      refine GRun.mcut (i := i) (τ := 9) (n := vr) (cs := Z) rfl hes ⟨by (refine rO (@GRUN) ?_; try (with_reducible exact True.intro)), by (refine rO (@GRUN) ?_; try (with_reducible exact True.intro)), by (refine rO (@GRUN) ?_; try (with_reducible exact True.intro)), by (refine rO (@GRUN) ?_; try (with_reducible exact True.intro)), by (refine rO (@GRUN) ?_; try (with_reducible exact True.intro)), rfl⟩ hi5' hne' ?_
      rw [htk]
      (refine GRun.done (fun K hK => ?_); (refine rO (@GRUN) ?_; try (with_reducible exact True.intro)); refine hK _ ?_; clear hK K)
      (refine gO (@GRUN) ?_; try (with_reducible exact True.intro))
      refine bodyQG.ret ?_
      (refine rO (And.intro @GRUN (And.intro @endB.eq_1 (@endB.eq_2))) ?_; try (with_reducible exact True.intro))
end Go.Proofs.YtafipkbffboebaaDoor
namespace Go.Proofs.YtafipkbffboebaaDoor
open Go Go.RowKit
set_option maxHeartbeats 4000000
set_option maxRecDepth 100000
set_option linter.unusedVariables false
set_option linter.unusedSimpArgs false
theorem rowE_no (s : FoldS) (e : EntD) (hp : OpOk s.p.opens) (hf : s.p.fin = 1048576) :
    FunG Tryd.prog 57 [.c (.own 0 0), entV e] inK (ofH (inM s)) (imposV [97, 32, 114, 111, 119, 32, 119, 105, 116, 104, 111, 117, 116, 32, 114, 111, 111, 109]) inK (ofH (inM s)) := by
  have c1 := fits_fun s.p 1
  rw [show IntKind.i64.wrap (1048576 - 1) = 1048575 from wrap_i64 (by decide), show decide (s.p.fin ≤ 1048575) = false from decide_eq_false (by omega)] at c1
  have c2 := impos_fun [97, 32, 114, 111, 119, 32, 119, 105, 116, 104, 111, 117, 116, 32, 114, 111, 111, 109]
  refine FunG.of_bodyH rfl rfl Tryd.func57 rfl rfl Tryd.ntmps57 Tryd.results57 (Nat.le_of_ble_eq_true rfl) (okG_in rfl rfl hp.pid hp.pid) ?_
  (refine gO (And.intro @GRUN (@EntD.dv.eq_1)) ?_; try (with_reducible exact True.intro))
  refine Wp.reg (fun K hK => ?_)
  (refine rO (And.intro @GRUN (@EntD.dv.eq_1)) ?_; try (with_reducible exact True.intro))
  refine bcall_s c1 rfl (snap_arg hp (by (refine rO (And.intro @GRUN (And.intro @endB.eq_1 (@endB.eq_2))) ?_; try (with_reducible exact True.intro)))) ?_
  (refine rO (@GRUN) ?_; try (with_reducible exact True.intro))
  refine hK _ ?_
  clear hK K
  (refine gO (And.intro @GRUN (@EntD.dv.eq_1)) ?_; try (with_reducible exact True.intro))
  refine bodyQG.ret ?_
  (refine rO (And.intro @GRUN (And.intro @endB.eq_1 (@endB.eq_2))) ?_; try (with_reducible exact True.intro))
theorem otherE_fun (s : FoldS) (e : EntD) (hp : OpOk s.p.opens) :
    FunG Tryd.prog 56 [.c (.own 0 0), entV e] inK (ofH (inM s)) (imposV [97, 110, 32, 101, 110, 116, 114, 121, 32, 111, 102, 32, 116, 104, 101, 32, 111, 116, 104, 101, 114, 32, 101, 110, 103, 105, 110, 101]) inK (ofH (inM s)) := by
  have c2 := impos_fun [97, 110, 32, 101, 110, 116, 114, 121, 32, 111, 102, 32, 116, 104, 101, 32, 111, 116, 104, 101, 114, 32, 101, 110, 103, 105, 110, 101]
  refine FunG.of_bodyH rfl rfl Tryd.func56 rfl rfl Tryd.ntmps56 Tryd.results56 (Nat.le_of_ble_eq_true rfl) (okG_in rfl rfl hp.pid hp.pid) ?_
  (refine gO (And.intro @GRUN (@EntD.dv.eq_1)) ?_; try (with_reducible exact True.intro))
  refine bodyQG.ret ?_
  (refine rO (And.intro @GRUN (And.intro @endB.eq_1 (@endB.eq_2))) ?_; try (with_reducible exact True.intro))
def stateS (s : FoldS) (p : ProdD) : FoldS := ⟨{ s.p with prods := setF s.p.prods p }, s.vr, s.vo, s.vt⟩
theorem stateE_no (s : FoldS) (e : EntD) (hp : OpOk s.p.opens) (hl : s.p.opens.length ≤ 1000) (ho : openB s.p.opens e.prod.pid = true) :
    FunG Tryd.prog 58 [.c (.own 0 0), entV e] inK (ofH (inM s)) (imposV [116, 104, 101, 32, 115, 116, 97, 116, 101, 32, 111, 102, 32, 97, 32, 112, 114, 111, 100, 117, 99, 101, 114, 32, 119, 105, 116, 104, 32, 97, 110, 32, 111, 112, 101, 110, 32, 116, 114, 97, 110, 115, 97, 99, 116, 105, 111, 110]) inK (ofH (inM s)) := by
  have c1 := open_fun s.p e.prod.pid (by omega)
  rw [ho] at c1
  have c2 := impos_fun [116, 104, 101, 32, 115, 116, 97, 116, 101, 32, 111, 102, 32, 97, 32, 112, 114, 111, 100, 117, 99, 101, 114, 32, 119, 105, 116, 104, 32, 97, 110, 32, 111, 112, 101, 110, 32, 116, 114, 97, 110, 115, 97, 99, 116, 105, 111, 110]
  refine FunG.of_bodyH rfl rfl Tryd.func58 rfl rfl Tryd.ntmps58 Tryd.results58 (Nat.le_of_ble_eq_true rfl) (okG_in rfl rfl hp.pid hp.pid) ?_
  (refine gO (And.intro @GRUN (@EntD.dv.eq_1)) ?_; try (with_reducible exact True.intro))
  refine Wp.reg (fun K hK => ?_)
  (refine rO (And.intro @GRUN (@EntD.dv.eq_1)) ?_; try (with_reducible exact True.intro))
  refine bcall_s c1 rfl (snap_arg hp (by (refine rO (And.intro @GRUN (And.intro @endB.eq_1 (@endB.eq_2))) ?_; try (with_reducible exact True.intro)))) ?_
  (refine rO (@GRUN) ?_; try (with_reducible exact True.intro))
  refine hK _ ?_
  clear hK K
  (refine gO (And.intro @GRUN (@EntD.dv.eq_1)) ?_; try (with_reducible exact True.intro))
  refine bodyQG.ret ?_
  (refine rO (And.intro @GRUN (And.intro @endB.eq_1 (@endB.eq_2))) ?_; try (with_reducible exact True.intro))
theorem stateE_fun (s : FoldS) (e : EntD) (hp : OpOk s.p.opens) (hl : s.p.opens.length ≤ 1000) (ho : openB s.p.opens e.prod.pid = false) (hs : SmallL s.p.prods) (he : e.prod.seen.length ≤ 100000) :
    FunG Tryd.prog 58 [.c (.own 0 0), entV e] inK (ofH (inM s)) nilE inK (ofH (inM (stateS s e.prod))) := by
  have c1 := open_fun s.p e.prod.pid (by omega)
  rw [ho] at c1
  have c2 := set_fun s.p.prods e.prod hs he
  simp only [ProdD.dv] at c2
  refine FunG.of_bodyH rfl rfl Tryd.func58 rfl rfl Tryd.ntmps58 Tryd.results58 (Nat.le_of_ble_eq_true rfl) (okG_in rfl rfl hp.pid hp.pid) ?_
  (refine gO (And.intro @GRUN (@EntD.dv.eq_1)) ?_; try (with_reducible exact True.intro))
  refine Wp.reg (fun K hK => ?_)
  (refine rO (And.intro @GRUN (@EntD.dv.eq_1)) ?_; try (with_reducible exact True.intro))
  refine bcall_s c1 rfl (snap_arg hp (by (refine rO (And.intro @GRUN (And.intro @endB.eq_1 (@endB.eq_2))) ?_; try (with_reducible exact True.intro)))) ?_
  (refine rO (@GRUN) ?_; try (with_reducible exact True.intro))
  refine hK _ ?_
  clear hK K
  (refine gO (And.intro @GRUN (@EntD.dv.eq_1)) ?_; try (with_reducible exact True.intro))
  refine bodyQG.ret ?_
  (refine rO (And.intro @GRUN (And.intro @endB.eq_1 (And.intro @endB.eq_2 (@stateS.eq_1)))) ?_; try (with_reducible exact True.intro))
theorem cutNo_fun (s : FoldS) (e : EntD) (hp : OpOk s.p.opens) (hc : e.off < s.p.start ∨ s.p.fin < e.off) :
    FunG Tryd.prog 55 [.c (.own 0 0), entV e] inK (ofH (inM s)) (imposV [97, 32, 99, 117, 116]) inK (ofH (inM s)) := by
  have c2 := impos_fun [97, 32, 99, 117, 116]
  refine FunG.of_bodyH rfl rfl Tryd.func55 rfl rfl Tryd.ntmps55 Tryd.results55 (Nat.le_of_ble_eq_true rfl) (okG_in rfl rfl hp.pid hp.pid) ?_
  by_cases h1 : e.off < s.p.start
  · have d1 : decide (e.off < s.p.start) = true := decide_eq_true h1
    (refine gO (And.intro @GRUN (And.intro @EntD.dv.eq_1 (d1))) ?_; try (with_reducible exact True.intro))
    refine bodyQG.ret ?_
    (refine rO (And.intro @GRUN (And.intro @endB.eq_1 (@endB.eq_2))) ?_; try (with_reducible exact True.intro))
  · have d1 : decide (e.off < s.p.start) = false := decide_eq_false h1
    have d2 : decide (s.p.fin < e.off) = true := decide_eq_true (by omega)
    (refine gO (And.intro @GRUN (And.intro @EntD.dv.eq_1 (And.intro d1 (d2)))) ?_; try (with_reducible exact True.intro))
    refine bodyQG.ret ?_
    (refine rO (And.intro @GRUN (And.intro @endB.eq_1 (@endB.eq_2))) ?_; try (with_reducible exact True.intro))
theorem rowsC_map (ρ : Nat → Nat) (l : List RowD) : (rowsC l).map (CV.ren ρ) = rowsC l := by
  unfold rowsC
  rw [List.map_map]
  exact List.map_congr_left (fun _ _ => rfl)
theorem rowsC_ren (ρ : Nat → Nat) (e v : Nat) (l : List RowD) : HE.ren ρ (.mrow e 5 v (rowsC l)) = .mrow e 5 v (rowsC l) := by
  show HE.mrow e 5 v ((rowsC l).map (CV.ren ρ)) = _
  rw [rowsC_map]
def cutP (o : Int) (r : RowD) : Bool := decide (r.off < o)
theorem cutIn_fun (r : RowD) (e : EntD) : Fun Tryd.prog 89 [.agg r.dv, .ptr e.dv 0] (boo (cutP e.off r)) := by
  (refine Fun.of_body Tryd.func89 rfl rfl Tryd.ntmps89 Tryd.results89 (by simp) ?_)
  (refine gO (And.intro @RowD.dv.eq_1 (@EntD.dv.eq_1)) ?_; try (with_reducible exact True.intro))
  (refine rO (@cutP.eq_1) ?_; try (with_reducible exact True.intro))
def cutS (s : FoldS) (o : Int) : FoldS := ⟨{ s.p with start := o, rows := keepF (cutP o) s.p.rows }, cutV (cutP o) s.p.rows s.vr, s.vo, s.vt⟩
theorem cut_fun (s : FoldS) (e : EntD) (hp : OpOk s.p.opens) (hr : s.p.rows.length ≤ 1000000) (hc : s.p.start ≤ e.off ∧ e.off ≤ s.p.fin) :
    FunG Tryd.prog 55 [.c (.own 0 0), entV e] inK (ofH (inM s)) nilE inK (ofH (inM (cutS s e.off))) := by
  have c1 := delF_fun s.p.rows s.vr 89 [.ptr e.dv 0] (cutP e.off) hr (fun r _ => cutIn_fun r e)
  have d1 : decide (e.off < s.p.start) = false := decide_eq_false (by omega)
  have d2 : decide (s.p.fin < e.off) = false := decide_eq_false (by omega)
  simp only [EntD.dv] at c1
  refine FunG.of_bodyH rfl rfl Tryd.func55 rfl rfl Tryd.ntmps55 Tryd.results55 (Nat.le_of_ble_eq_true rfl) (okG_in rfl rfl hp.pid hp.pid) ?_
  (refine gO (And.intro @GRUN (And.intro @EntD.dv.eq_1 (And.intro d1 (d2)))) ?_; try (with_reducible exact True.intro))
  (refine Wp.weak (Weak.freeze (id := 1000) (by (refine rO0 ?_; try (with_reducible exact True.intro)); rfl) (by (refine rO0 ?_; try (with_reducible exact True.intro)); rfl)) ?_)
  (first | refine Wp.sregG ?_ | refine Wp.regG ?_ | (refine Wp.seq ?_; first | refine Wp.sregG ?_ | refine Wp.regG ?_))
  (refine GRun.at 7 (fun K hK => ?_); simp (maxSteps := 2000000) (disch := omega) only [RUN, TY, RUNB, aop, ofV, SV.ofD, aLd, aSt, aFd, aPt, aLen, aSl, aIf, aMF, aXt, aBu, aCX, aCL, aCy, CV.exact, CV.lstOf, CV.lenOf, CV.one, D.one, Value.oneCell', CV.toD0, iFl, oWn, pLk, nD0, rD0, bQ0, tQ0, kQ0, reduceCtorEq, reduceIte, Nat.reduceBEq, Nat.reduceEqDiff, Nat.reduceAdd, Nat.reduceMul, Nat.reduceSub, Nat.reduceLT, Nat.reduceLeDiff, Nat.reduceBNe, Int.reduceLE, Int.reduceLT, Int.reduceBEq, Int.reduceBNe, Int.reduceEq, Int.reduceNeg, Int.reduceAdd, Int.reduceSub, Int.reduceToNat, forall_const, GRUN, capG]; refine hK _ ?_; clear hK K)
  (refine GRun.call (c1) [] 1001 rfl rfl ?_ ?_; (focus ((refine rOs (And.intro @HEREN (And.intro @GRUN (@rowsC_ren))) ?_; try (with_reducible exact True.intro)); done)))
  (refine GRun.done (fun K hK => ?_); (refine rOs (And.intro @GRUN (And.intro @putB.eq_1 (And.intro @putB.eq_2 (And.intro @rowsC_ren (And.intro @List.map_cons.{0,0} (@List.map_nil.{0,0})))))) ?_; try (with_reducible exact True.intro)); refine hK _ ?_; clear hK K)
  (refine gO (And.intro @GRUN (@EntD.dv.eq_1)) ?_; try (with_reducible exact True.intro))
  refine bodyQG.ret ?_
  (refine rO (And.intro @GRUN (And.intro @endB.eq_1 (And.intro @endB.eq_2 (@cutS.eq_1)))) ?_; try (with_reducible exact True.intro))
end Go.Proofs.YtafipkbffboebaaDoor
