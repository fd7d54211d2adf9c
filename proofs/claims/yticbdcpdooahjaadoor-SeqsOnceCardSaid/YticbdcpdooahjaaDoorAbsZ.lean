/- The machine: the statement that ranges over a function. -/
import Derived.Test.YticbdcpdooahjaaDoorAbsY
namespace Go.Proofs.YticbdcpdooahjaaDoor
open Go Go.RowKit
set_option linter.unusedVariables false
set_option linter.unusedSimpArgs false
def setP (env : Nat → SV) : List Nat → List D → Nat → SV
  | p :: ps, d :: ds => setP (upd env p (SV.ofD d)) ps ds
  | _, _ => env
theorem setP_cons (env : Nat → SV) (p : Nat) (ps : List Nat) (d : D) (ds : List D) : setP env (p :: ps) (d :: ds) = setP (upd env p (SV.ofD d)) ps ds := rfl
theorem setP_nil (env : Nat → SV) (ds : List D) : setP env [] ds = env := by cases ds <;> rfl
theorem setP_nil' (env : Nat → SV) (ps : List Nat) : setP env ps [] = env := by cases ps <;> rfl
theorem setP_rep {g : G} {H : Hp} : ∀ (ps : List Nat) (ds : List D) (vs : List Value) (env : Nat → SV) (tmps : Array Value), RepL g.K ds vs → (∀ t, RepS g H (env t) (tmps.getD t undef)) → (∀ p ∈ ps, p < tmps.size) → ps.length = ds.length →
    (∀ t, RepS g H (setP env ps ds t) (((ps.zip vs).foldl (fun (tm : Array Value) (q : Nat × Value) => tm.setIfInBounds q.1 q.2) tmps).getD t undef)) ∧ ((ps.zip vs).foldl (fun (tm : Array Value) (q : Nat × Value) => tm.setIfInBounds q.1 q.2) tmps).size = tmps.size
  | [], ds, vs, env, tmps, _, he, _, _ => ⟨by rw [setP_nil]; exact he, rfl⟩
  | p :: ps, [], vs, env, tmps, _, he, _, hl => by simp at hl
  | p :: ps, d :: ds, [], env, tmps, hr, _, _, _ => by have := hr.1; simp at this
  | p :: ps, d :: ds, v :: vs, env, tmps, hr, he, hp, hl => by
    have hd : Rep g.K d v := hr.2 0 d v rfl rfl
    have hr' : RepL g.K ds vs := ⟨by simpa using hr.1, fun j x u hx hu => hr.2 (j + 1) x u hx hu⟩
    have hpt := hp p (by simp)
    have := setP_rep ps ds vs (upd env p (SV.ofD d)) (tmps.setIfInBounds p v) hr' (fun t => by
      by_cases ht : t = p
      · subst ht
        rw [upd_same, Array.getD_eq_getD_getElem?, Array.getElem?_setIfInBounds_self_of_lt hpt]
        exact ofD_rep hd _ _ rfl
      · rw [upd_ne _ _ ht, Array.getD_eq_getD_getElem?, Array.getElem?_setIfInBounds_ne (Ne.symm ht), ← Array.getD_eq_getD_getElem?]
        exact he t) (fun q hq => by simpa using hp q (by simp [hq])) (by simpa using hl)
    simp only [List.zip_cons_cons, List.foldl_cons]
    exact ⟨this.1, this.2.trans (by simp)⟩
theorem zip_fold (ps : Array Nat) (vs : List Value) (tmps : Array Value) : (ps.zip vs.toArray).foldl (fun tmps (t, a) => tmps.setIfInBounds t a) tmps = (ps.toList.zip vs).foldl (fun (tm : Array Value) (q : Nat × Value) => tm.setIfInBounds q.1 q.2) tmps := by
  rw [← Array.foldl_toList]
  simp [Array.toList_zip]
abbrev fxR (ks : List Nat) (iD : Nat) : Fx := ⟨ks ++ [iD, 999], [], true, none⟩
/-- The frame of a round. -/
def roundS (σ : St) (ps : List Nat) (x : List D) (M : List (Nat × HE)) (ks : List Nat) (iD : Nat) (o : Obj) : St := ⟨setP σ.env ps x, ofH (M ++ [(iD, dfO), (999, .obj o)]), σ.nx, σ.sz, fxR ks iD⟩
def afterS (σ : St) (M : List (Nat × HE)) (iD : Nat) : St := ⟨σ.env, ofH (M ++ [(iD, dfO)]), σ.nx, σ.sz, { σ.fx with dfs := iD :: σ.fx.dfs }⟩
def exCode : Exit → Code
  | .exit id => .exit id
  | _ => .ret
def isJump : Exit → Bool
  | .exit _ => true
  | .ret => true
  | _ => false
def roundQ (σ : St) (M' : List (Nat × HE)) (ks : List Nat) (iD : Nat) (go : Bool) (ex : Exit) (o : Obj) : Exit → St → Prop := fun e σ2 =>
  Weak σ2 ⟨ofL [], ofH (M' ++ [(iD, dfO), (999, .obj o)]), 0, σ.sz, fxR ks iD⟩ ∧ ((e = .normal ∧ go = true) ∨ (go = false ∧ e = ex ∧ isJump e = true))
theorem lookup_app {M N : List (Nat × HE)} (i : Nat) : (M ++ N).lookup i = match M.lookup i with | some x => some x | none => N.lookup i := by
  induction M with
  | nil => rfl
  | cons p M ih =>
    obtain ⟨k, x⟩ := p
    simp only [List.cons_append, List.lookup_cons]
    cases i == k
    · exact ih
    · rfl
theorem lookup_keys {M : List (Nat × HE)} {i : Nat} (h : (M.map (·.1)).contains i = false) : M.lookup i = none := by
  cases hm : M.lookup i with
  | none => rfl
  | some x =>
    have : i ∈ M.map (·.1) := List.mem_map.2 ⟨_, lookup_mem hm, rfl⟩
    rw [List.contains_eq_mem, decide_eq_false_iff_not] at h
    exact absurd this h
theorem hp_end {M : List (Nat × HE)} {ks : List Nat} {iD : Nat} (hk : M.map (·.1) = ks) (hD : ks.contains iD = false) (h9 : ks.contains 999 = false) (hne : iD ≠ 999) (o : Obj) :
    ofH (M ++ [(iD, dfO), (999, .obj o)]) = upd (upd (ofH M) iD (some dfO)) 999 (some (.obj o)) := by
  subst hk
  funext i
  show (M ++ _).lookup i = _
  rw [lookup_app]
  by_cases h1 : i = 999
  · subst h1
    rw [upd_same, lookup_keys h9]
    have : (999 == iD) = false := by simpa using Ne.symm hne
    simp [List.lookup_cons, this]
  · rw [upd_ne _ _ h1]
    by_cases h2 : i = iD
    · subst h2
      rw [upd_same, lookup_keys hD]
      simp [List.lookup_cons]
    · rw [upd_ne _ _ h2]
      show _ = M.lookup i
      cases M.lookup i with
      | some x => rfl
      | none =>
        have e1 : (i == iD) = false := by simpa using h2
        have e2 : (i == 999) = false := by simpa using h1
        simp [List.lookup_cons, e1, e2]
theorem hp_end1 {M : List (Nat × HE)} {ks : List Nat} {iD : Nat} (hk : M.map (·.1) = ks) (hD : ks.contains iD = false) : ofH (M ++ [(iD, dfO)]) = upd (ofH M) iD (some dfO) := by
  subst hk
  funext i
  show (M ++ _).lookup i = _
  rw [lookup_app]
  by_cases h2 : i = iD
  · subst h2
    rw [upd_same, lookup_keys hD]
    simp [List.lookup_cons]
  · rw [upd_ne _ _ h2]
    show _ = M.lookup i
    cases M.lookup i with
    | some x => rfl
    | none =>
      have e1 : (i == iD) = false := by simpa using h2
      simp [List.lookup_cons, e1]
theorem closed_of {M : List (Nat × HE)} {ks ks' : List Nat} (hk : M.map (·.1) = ks) (hok : okIds [] M = true) (hsub : ∀ i, ks.contains i = true → ks'.contains i = true) : ∀ k cs, ofH M k = some (.cells cs) → ∀ i ∈ cs.flatMap CV.ids, ks'.contains i = true := by
  intro k cs hH i hi
  simp only [okIds, Bool.and_eq_true] at hok
  have hmem : (k, HE.cells cs) ∈ M := lookup_mem hH
  have := List.all_eq_true.1 (List.all_eq_true.1 hok.2 _ hmem) i hi
  rw [hk] at this
  exact hsub i this
/-- **THE STATEMENT for .. := range f.** S i: the boxes behind i rounds; cont i: does the loop go on behind round i; ex i: how it is left, if not. -/
theorem Wp.rangeFunc {P : Program} {σ : St} {Q : Exit → St → Prop} {f : Operand} {ps : Array Tmp} {assign body : Code} {gf : FuncId} {caps : List D} {xs : List (List D)}
    (hrd : σ.fx.rd = false) (hf : evalS σ.env f = .c (.d (.fn (.func gf) caps))) (hs : SeqF P gf caps xs) (iD : Nat) (S : Nat → List (Nat × HE)) (ks : List Nat) (cont : Nat → Bool) (ex : Nat → Exit)
    (hH : σ.H = ofH (S 0)) (hkeys : ∀ i, (S i).map (·.1) = ks) (hks : (ks.all (fun k => decide (k < 999)) && !ks.contains iD && decide (iD < 999)) = true) (hok : ∀ i, okIds [] (S i) = true) (hln : (σ.fx.lent.all fun i => ks.contains i) = true)
    (hdf : ∀ i, ∀ id ∈ σ.fx.dfs, ofH (S i) id = some dfO) (hps : (ps.toList.all fun p => decide (p < σ.sz)) = true) (hlen : ∀ x ∈ xs, x.length = ps.toList.length)
    (hround : ∀ i (hi : i < xs.length), (∀ j, j < i → cont j = true) → ∀ o1 : Obj, Wp P assign (roundS σ ps.toList xs[i] (S i) ks iD o1) (fun e σ1 => e = .normal ∧ σ1.H 999 = some (.obj o1) ∧ σ1.fx = fxR ks iD ∧ ∀ o2 : Obj, Wp P body { σ1 with H := upd σ1.H 999 (some (.obj o2)) } (roundQ σ (S (i + 1)) ks iD (cont i) (ex i) o2)))
    (hexit : ∀ i, i < xs.length → (∀ j, j < i → cont j = true) → cont i = false → isJump (ex i) = true ∧ Q (ex i) (afterS σ (S (i + 1)) iD))
    (hdone : (∀ j, j < xs.length → cont j = true) → Q .normal (afterS σ (S xs.length) iD)) : Wp P (.rangeFunc f ps assign body) σ Q := by
  intro F K0 g a w hr
  have hro : F.ro = none := by
    have := hr.rd
    rw [hrd] at this
    cases hq : F.ro with
    | none => rfl
    | some l => rw [hq] at this; simp at this
  simp only [Bool.and_eq_true, Bool.not_eq_true', decide_eq_true_eq] at hks
  obtain ⟨⟨hk1, hkD⟩, hD9⟩ := hks
  have hklt : ∀ k, ks.contains k = true → k < 999 := fun k hk => by
    have := List.all_eq_true.1 hk1 k (by simpa using hk)
    simpa using this
  have hk9 : ks.contains 999 = false := by
    cases hc : ks.contains 999 with
    | false => rfl
    | true => have := hklt 999 hc; omega
  have hDne : iD ≠ 999 := by omega
  obtain ⟨ks', hks'⟩ : ∃ ks', ks' = ks ++ [iD, 999] := ⟨_, rfl⟩
  have hin : ∀ i, ks.contains i = true → ks'.contains i = true := fun i hi => by
    rw [hks']; simp only [List.contains_eq_mem, decide_eq_true_eq, List.mem_append] at hi ⊢; exact .inl hi
  have hinD : ks'.contains iD = true := by rw [hks']; simp
  have hin9 : ks'.contains 999 = true := by rw [hks']; simp
  have hout : ∀ i, ks'.contains i = false → ks.contains i = false ∧ i ≠ iD ∧ i ≠ 999 := fun i hi => by
    rw [hks'] at hi
    simp only [List.contains_eq_mem, decide_eq_false_iff_not, List.mem_append, not_or, List.mem_cons, List.not_mem_nil, or_false] at hi ⊢
    exact ⟨hi.1, hi.2.1, hi.2.2⟩
  rw [hro]
  show (Code.rangeFunc f ps assign body).wpIn Fence.wide 0 P _ a w
  refine wpIn_rangeFunc ?_
  intro fn _
  -- the record
  let rec_ : LoopState → Option Code → Obj := fun st pe => .loop { state := st, pending := pe, fn := fn, tmps := a.tmps, params := ps, assign := assign, body := body, defers := w.heap.size }
  let ost : Nat → Obj := fun i => if (List.range i).all cont then rec_ .ready none else rec_ .done (some (exCode (ex (i - 1))))
  let A : Nat → Hp := fun i => ofH (S i ++ [(iD, dfO), (999, .obj (ost i))])
  have hA : ∀ i, A i = upd (upd (ofH (S i)) iD (some dfO)) 999 (some (.obj (ost i))) := fun i => hp_end (hkeys i) hkD hk9 hDne _
  have hSout : ∀ i k, ks.contains k = false → ofH (S i) k = none := fun i k hk => lookup_keys (by rw [hkeys i]; exact hk)
  have hLent : Lent ks' A := by
    refine ⟨fun k hk => ?_, hin9, fun i k hk => ?_, fun i => ?_, fun i k cs hk hH j hj => ?_⟩
    · rw [hks'] at hk
      simp only [List.contains_eq_mem, decide_eq_true_eq, List.mem_append, List.mem_cons, List.not_mem_nil, or_false] at hk
      rcases hk with h | rfl | rfl
      · have := hklt k (by simpa using h); omega
      · omega
      · omega
    · obtain ⟨h1, h2, h3⟩ := hout k hk
      rw [hA, upd_ne _ _ h3, upd_ne _ _ h2]; exact hSout i k h1
    · rw [hA, upd_same]; rfl
    · rw [hA] at hH
      by_cases h3 : k = 999
      · subst h3; rw [upd_same] at hH; cases hH
      rw [upd_ne _ _ h3] at hH
      by_cases h2 : k = iD
      · subst h2; rw [upd_same] at hH; cases hH
      rw [upd_ne _ _ h2] at hH
      exact closed_of (hkeys i) (hok i) hin k cs hH j hj
  -- two new objects
  have hnD : σ.H iD = none := by rw [hH]; exact hSout 0 iD hkD
  obtain ⟨hm1, hle1⟩ := hr.mem.newObj (.deferred (some [])) hnD
  have hn9 : upd σ.H iD (some (HE.obj (.deferred (some [])))) 999 = none := by rw [upd_ne _ _ (Ne.symm hDne), hH]; exact hSout 0 999 hk9
  obtain ⟨hm2, hle2⟩ := hm1.newObj (rec_ .ready none) hn9
  have host0 : ost 0 = rec_ .ready none := rfl
  have hA0 : upd (upd σ.H iD (some (HE.obj (.deferred (some []))))) 999 (some (HE.obj (rec_ .ready none))) = A 0 := by rw [hA, ← hH, host0]
  rw [hA0] at hm2 hle2
  generalize hg2 : (⟨g.K, upd (upd g.β iD (some w.heap.size)) 999 (some (w.alloc (.deferred (some []))).heap.size), g.cap⟩ : G) = g2 at hm2 hle2
  have hle : GLe g σ.H g2 (A 0) := hle1.trans hle2
  have hβ9 : g2.β 999 = some (w.heap.size + 1) := by rw [← hg2]; simp only [upd_same]; simp
  have hβD : g2.β iD = some w.heap.size := by rw [← hg2]; simp only [upd_ne _ _ hDne, upd_same]
  have hids : ∀ t, ∀ i ∈ (σ.env t).ids, ks.contains i = true := by
    intro t i hi
    have hne : σ.H i ≠ none := by
      have h0 := hr.env t
      generalize σ.env t = x at h0 hi
      cases x with
      | c x => exact rep_ids hr.mem h0 i hi
      | agg cs =>
        obtain ⟨vs, _, hrr, _⟩ := h0
        obtain ⟨c, hc1, hc2⟩ := List.mem_flatMap.1 hi
        obtain ⟨j, hj, rfl⟩ := List.getElem_of_mem hc1
        have hl0 := hrr.1
        exact rep_ids hr.mem (hrr.2 j cs[j] (vs[j]'(by omega)) (List.getElem?_eq_getElem hj) (List.getElem?_eq_getElem (by omega))) i hc2
    cases hc : ks.contains i with
    | true => rfl
    | false => rw [hH, hSout 0 i hc] at hne; exact absurd rfl hne
  have hfv := evalS_rep hr f
  rw [hf] at hfv
  have hfv : Rep g.K (.fn (.func gf) caps) (a.eval f) := hfv
  generalize hav : a.eval f = fv at hfv
  cases hfv with
  | fn hl hv =>
    rename_i cvs
    have hcaps : RepL g2.K caps cvs := by
      have : g2.K = g.K := by rw [← hg2]
      rw [this]; exact ⟨hl, hv⟩
    refine ⟨w.heap.size + 1, [{ target := .collected w.heap.size, args := #[] }], (w.alloc (.deferred (some []))).alloc (rec_ .ready none), { target := .fn (.func gf) cvs.toArray, args := #[.func (.yield (w.heap.size + 1)) #[] #[]] }, (w.alloc (.deferred (some []))).alloc (rec_ .ready none), gf, (Value.func (.yield (w.heap.size + 1)) #[] #[] :: cvs).toArray, (w.alloc (.deferred (some []))).alloc (rec_ .ready none), run_enterLoop_outer _ _ _ _ _, ?_, ?_, ?_, fun h => by simp [Fence.wide] at h, ?_⟩
    · simp only [resolve, hav]
      simp [go_sem]
    · intro f' hf'; trivial
    · have hbody := hs.1
      unfold bodyOk at hbody
      split at hbody
      · rename_i fn' hfn
        simp only [Bool.and_eq_true, Bool.not_eq_true'] at hbody
        have hb1 : ¬ fn'.body = none := by intro e; rw [e] at hbody; simp at hbody
        have hb2 : ¬ fn'.name = "runtime.NumGoroutine" := by simpa using hbody.1
        simp [invoke, callFunc, hfn, hb1, hb2]
      · cases hbody
    · refine callsIn_wide.2 ?_
      have hcall := hs.2 ks' A cont hLent F K0 g2 _ cvs (w.heap.size + 1) hm2 hcaps hβ9 ?_
      · refine hcall.mono ?_
        rintro e w3 ⟨v, g3, n, rfl, hst, hrel, hgle⟩
        -- behind the function
        have h9 : A n 999 = some (.obj (ost n)) := by rw [hA, upd_same]
        have hβ3 : g3.β 999 = some (w.heap.size + 1) := by
          obtain ⟨b', hb', he, _⟩ := hgle (.own 999 0) (.pointer (some ⟨w.heap.size + 1, 0, none⟩)) ⟨_, hβ9, rfl, hLent.nr 0⟩
          simp only [Value.pointer.injEq, Option.some.injEq, Addr.mk.injEq, and_true] at he
          rw [hb', he]
        have hβ3D : g3.β iD = some w.heap.size := by
          obtain ⟨b', hb', he, _⟩ := hgle (.own iD 0) (.pointer (some ⟨w.heap.size, 0, none⟩)) ⟨_, hβD, rfl, by rw [hA, upd_ne _ _ hDne, upd_same]; rfl⟩
          simp only [Value.pointer.injEq, Option.some.injEq, Addr.mk.injEq, and_true] at he
          rw [hb', he]
        obtain ⟨b3, hb3, hheap3, _⟩ := hrel.holds 999 _ h9
        rw [hβ3] at hb3; cases hb3
        -- the frame behind it
        have hfin : ∀ ob, Rel F K0 (g3.on (ks ++ [iD])) (afterS σ (S n) iD) { a with defers := [{ target := .collected w.heap.size, args := #[] }] ++ a.defers } (w3.putObj (w.heap.size + 1) ob) := by
          intro ob
          obtain ⟨hm4, hle4⟩ := hrel.setObj ob h9 hβ3
          have hin1 : ∀ i, ks.contains i = true → (ks ++ [iD]).contains i = true := fun i hi => by
            simp only [List.contains_eq_mem, decide_eq_true_eq, List.mem_append] at hi ⊢; exact .inl hi
          have hcl4 : Closed (ks ++ [iD]) (upd (A n) 999 (some (.obj ob))) := by
            intro k cs hk hH j hj
            by_cases h3 : k = 999
            · subst h3; rw [upd_same] at hH; cases hH
            rw [upd_ne _ _ h3, hA, upd_ne _ _ h3] at hH
            by_cases h2 : k = iD
            · subst h2; rw [upd_same] at hH; cases hH
            rw [upd_ne _ _ h2] at hH
            exact closed_of (hkeys n) (hok n) hin1 k cs hH j hj
          have hln4 : ∀ i ∈ F.ln, (ks ++ [iD]).contains i = true := fun i hi => hin1 i (by rw [hr.ln] at hi; exact List.all_eq_true.1 hln i hi)
          have hm5 := hm4.drop (ks ++ [iD]) hln4 hcl4
          have hon : Hp.on (ks ++ [iD]) (upd (A n) 999 (some (.obj ob))) = ofH (S n ++ [(iD, dfO)]) := by
            rw [hp_end1 (hkeys n) hkD]
            funext k
            by_cases h2 : k = iD
            · subst h2
              rw [Hp.on_in (show (ks ++ [k]).contains k = true by simp), upd_ne _ _ hDne, hA, upd_ne _ _ hDne, upd_same]
            · rw [upd_ne _ _ h2]
              cases hc : ks.contains k with
              | true =>
                have h3 : k ≠ 999 := by have := hklt k hc; omega
                rw [Hp.on_in (hin1 k hc), upd_ne _ _ h3, hA, upd_ne _ _ h3, upd_ne _ _ h2]
              | false =>
                rw [Hp.on_out (show (ks ++ [iD]).contains k = false by simp only [List.contains_eq_mem, decide_eq_false_iff_not, List.mem_append, not_or, List.mem_singleton] at hc ⊢; exact ⟨hc, h2⟩), hSout n k hc]
          rw [hon] at hm5
          refine ⟨hm5, fun t => ?_, hr.size, ?_, hr.ln, hr.rd, ?_, hr.lt⟩
          · have he := ((hr.env t).mono hle).mono (hgle.trans hle4)
            have := RepS.on (ks := ks ++ [iD]) (fun i hi => hin1 i (hids t i hi)) he
            rw [hon] at this
            exact this
          · show DefsRel _ _ (iD :: σ.fx.dfs) ({ target := .collected w.heap.size, args := #[] } :: a.defers)
            refine ⟨⟨w.heap.size, (G.on_in (by simp)).trans hβ3D, rfl⟩, ?_, ?_⟩
            · show ofH (S n ++ [(iD, dfO)]) iD = some dfO
              rw [hp_end1 (hkeys n) hkD, upd_same]
            · have hd := hr.defers
              have hmem : ∀ i ∈ σ.fx.dfs, i ∈ σ.fx.dfs := fun _ h => h
              revert hd hmem
              generalize a.defers = ds
              suffices ∀ l, (∀ i ∈ l, i ∈ σ.fx.dfs) → DefsRel g σ.H l ds → DefsRel (g3.on (ks ++ [iD])) (ofH (S n ++ [(iD, dfO)])) l ds from fun hd hmem => this σ.fx.dfs hmem hd
              intro l hl hd
              induction l generalizing ds with
              | nil => cases ds with
                | nil => trivial
                | cons _ _ => exact hd.elim
              | cons i l ih => cases ds with
                | nil => exact hd.elim
                | cons d ds =>
                  obtain ⟨⟨b, hb, e⟩, h2, h3⟩ := hd
                  have hci : ks.contains i = true := by
                    cases hc : ks.contains i with
                    | true => rfl
                    | false => rw [hH, hSout 0 i hc] at h2; cases h2
                  have hne : i ≠ iD := fun e => by subst e; rw [hkD] at hci; cases hci
                  refine ⟨⟨b, ?_, e⟩, ?_, ih ds (fun j hj => hl j (by simp [hj])) h3⟩
                  · obtain ⟨b', hb', he, _⟩ := (hle.trans hgle) (.own i 0) (.pointer (some ⟨b, 0, none⟩)) ⟨b, hb, rfl, by rw [h2]; rfl⟩
                    simp only [Value.pointer.injEq, Option.some.injEq, Addr.mk.injEq, and_true] at he
                    rw [G.on_in (hin1 i hci), hb', he]
                  · rw [hp_end1 (hkeys n) hkD, upd_ne _ _ hne]
                    exact hdf n i (hl i (by simp))
          · show (iD :: σ.fx.dfs).Nodup
            refine List.nodup_cons.2 ⟨fun hm => ?_, hr.nodup⟩
            have := hdf 0 iD hm
            rw [hSout 0 iD hkD] at this; cases this
        have hstate : ∀ (hall : (List.range n).all cont = true), ost n = rec_ .ready none := fun hall => by show (if _ then _ else _) = _; rw [if_pos hall]
        have hstop : ∀ (hall : (List.range n).all cont = false), ost n = rec_ .done (some (exCode (ex (n - 1)))) := fun hall => by show (if _ then _ else _) = _; rw [if_neg (by rw [hall]; simp)]
        cases hall : (List.range n).all cont with
        | true =>
          rw [hstate hall] at hheap3
          refine ⟨none, _, run_endLoop hheap3 (by simp), ?_⟩
          have hn : n = xs.length ∧ ∀ j, j < n → cont j = true := by
            rcases hst.2.2 with h | ⟨h1, h2⟩
            · exact h
            · have := List.all_eq_true.1 hall (n - 1) (by simp; omega)
              rw [h2] at this; cases this
          obtain ⟨rfl, hc⟩ := hn
          exact ⟨_, _, hfin _, hdone hc⟩
        | false =>
          rw [hstop hall] at hheap3
          refine ⟨some (exCode (ex (n - 1))), _, run_endLoop hheap3 (by simp), ?_⟩
          have hn : 0 < n ∧ cont (n - 1) = false := by
            rcases hst.2.2 with ⟨_, h⟩ | h
            · have : (List.range n).all cont = true := List.all_eq_true.2 (fun j hj => h j (by simpa using hj))
              rw [this] at hall; cases hall
            · exact h
          obtain ⟨hj, hq⟩ := hexit (n - 1) (by have := hst.1; omega) (fun j hj => hst.2.1 j (by omega)) hn.2
          rw [show n - 1 + 1 = n by omega] at hq
          generalize ex (n - 1) = e0 at hj hq
          cases e0 with
          | exit id => exact wpIn_exit ⟨_, _, hfin _, hq⟩
          | ret => exact wpIn_ret ⟨_, _, hfin _, hq⟩
          | _ => simp [isJump] at hj
      · intro i hi hcont F' K0' g' w' vs' l' hln' hg' hH' hh' hargs hl'
        have hall : (List.range i).all cont = true := List.all_eq_true.2 (fun j hj => hcont j (by simpa using hj))
        have hosti : ost i = rec_ .ready none := by show (if _ then _ else _) = _; rw [if_pos hall]
        have h9 : A i 999 = some (.obj (rec_ .ready none)) := by rw [hA, upd_same, hosti]
        obtain ⟨b0, hb0, hheap0, _⟩ := hh'.holds 999 _ h9
        rw [hl'] at hb0; cases hb0
        have hxl := hlen xs[i] (List.getElem_mem hi)
        have hvl : vs'.length = ps.size := by have := hargs.1; simp at hxl; omega
        refine ⟨fn, _, assign, body, run_yield hheap0 (by simpa using hvl), roundIn_of_wpIn trivial ?_⟩
        let F2 : Fr := ⟨F'.W, F'.S, ks', g', A i, some l'⟩
        have hmono : ∀ t, RepS g' (A i) (σ.env t) (a.tmps.getD t undef) := by
          intro t
          have he := (hr.env t).mono hle
          have hi' := hids t
          generalize σ.env t = x at he hi'
          have hup : ∀ x v, (∀ i ∈ CV.ids x, ks.contains i = true) → RepC g2 (A 0) x v → RepC g' (A i) x v := fun x v hx h =>
            hh'.lent x v (fun j hj => by rw [hln']; have := hin j (hx j hj); simpa using this) (by rw [hg', hH']; exact h)
          cases x with
          | c x => exact hup x _ hi' he
          | agg cs =>
            obtain ⟨vs, hv, hrr, h1⟩ := he
            exact ⟨vs, hv, ⟨hrr.1, fun j x v hx hv => hup x v (fun k hk => hi' k (List.mem_flatMap.2 ⟨x, List.mem_of_getElem? hx, hk⟩)) (hrr.2 j x v hx hv)⟩, h1⟩
        have hset := setP_rep (H := A i) ps.toList xs[i] vs' σ.env a.tmps hargs hmono (fun p hp => by rw [hr.size]; simpa using List.all_eq_true.1 hps p hp) hxl.symm
        have hrel : Rel F2 K0' g' (roundS σ ps.toList xs[i] (S i) ks iD (rec_ .ready none)) { tmps := (ps.zip vs'.toArray).foldl (fun tmps (t, a) => tmps.setIfInBounds t a) a.tmps, defers := [] } w' := by
          have hHe : (roundS σ ps.toList xs[i] (S i) ks iD (rec_ .ready none)).H = A i := by show ofH _ = ofH _; rw [← hosti]
          refine ⟨by rw [hHe]; exact hh'.reb rfl rfl (fun _ _ _ h => h), fun t => ?_, ?_, trivial, hks', rfl, List.nodup_nil, fun q hq => by cases hq⟩
          · rw [hHe]
            show RepS g' (A i) _ (Array.getD ((ps.zip vs'.toArray).foldl (fun tmps (t, a) => tmps.setIfInBounds t a) a.tmps) t undef)
            rw [zip_fold]; exact hset.1 t
          · show Array.size ((ps.zip vs'.toArray).foldl (fun tmps (t, a) => tmps.setIfInBounds t a) a.tmps) = σ.sz
            rw [zip_fold, hset.2]; exact hr.size
        have h1 := hround i hi hcont (rec_ .ready none) F2 K0' g' _ w' hrel
        refine wpIn_mono h1 ?_
        rintro e a1 w1 ⟨g1, σ1, hr1, rfl, hσ9, hσfx, hbody⟩
        have hβof : ∀ gx Hx wx, RelH F2 K0' gx Hx wx → gx.β 999 = some l' := fun gx Hx wx hx => by
          obtain ⟨b', hb', he, _⟩ := hx.lent (.own 999 0) (.pointer (some ⟨l', 0, none⟩)) (fun j hj => by simp [CV.ids] at hj; subst hj; show 999 ∈ ks'; simpa using hin9) ⟨l', hl', rfl, hLent.nr i⟩
          simp only [Value.pointer.injEq, Option.some.injEq, Addr.mk.injEq, and_true] at he
          rw [hb', he]
        have hβ1 := hβof g1 σ1.H w1 hr1.mem
        obtain ⟨b1, hb1, hheap1, _⟩ := hr1.mem.holds 999 _ hσ9
        rw [hβ1] at hb1; cases hb1
        refine ⟨_, run_beginRound hheap1 rfl, ?_⟩
        obtain ⟨hmb, hleb⟩ := hr1.mem.setObj (rec_ .busy none) hσ9 hβ1
        have hr2 : Rel F2 K0' g1 { σ1 with H := upd σ1.H 999 (some (.obj (rec_ .busy none))) } a1 (w1.putObj l' (rec_ .busy none)) := by
          refine ⟨hmb, fun t => (hr1.env t).mono hleb, hr1.size, ?_, hr1.ln, hr1.rd, hr1.nodup, hr1.lt⟩
          have hd := hr1.defers
          show DefsRel _ _ σ1.fx.dfs a1.defers
          rw [hσfx] at hd ⊢
          cases hq : a1.defers with
          | nil => trivial
          | cons x y => rw [hq] at hd; exact hd.elim
        refine wpIn_mono (hbody (rec_ .busy none) F2 K0' g1 a1 _ hr2) ?_
        rintro e a3 w3 ⟨g3, σ3, hr3, hwk, hcase⟩
        obtain ⟨g4, hr4⟩ := hwk F2 K0' g3 a3 w3 hr3
        have hm4 : RelH F2 K0' g4 (ofH (S (i + 1) ++ [(iD, dfO), (999, .obj (rec_ .busy none))])) w3 := hr4.mem
        have hβ4 := hβof g4 _ w3 hm4
        have hH4 : ofH (S (i + 1) ++ [(iD, dfO), (999, .obj (rec_ .busy none))]) 999 = some (.obj (rec_ .busy none)) := by rw [hp_end (hkeys (i + 1)) hkD hk9 hDne, upd_same]
        obtain ⟨b4, hb4, hheap4, _⟩ := hm4.holds 999 _ hH4
        rw [hβ4] at hb4; cases hb4
        have hend : ∀ ob, ost (i + 1) = ob → RelH F' K0' g4 (A (i + 1)) (w3.putObj l' ob) ∧ GLe g' (A i) g4 (A (i + 1)) := by
          rintro ob rfl
          obtain ⟨hm5, hle5⟩ := hm4.setObj (ost (i + 1)) hH4 hβ4
          have hAe : upd (ofH (S (i + 1) ++ [(iD, dfO), (999, .obj (rec_ .busy none))])) 999 (some (.obj (ost (i + 1)))) = A (i + 1) := by
            rw [hA, hp_end (hkeys (i + 1)) hkD hk9 hDne]
            funext k
            by_cases hk : k = 999
            · subst hk; rw [upd_same, upd_same]
            · rw [upd_ne _ _ hk, upd_ne _ _ hk, upd_ne _ _ hk]
          rw [hAe] at hm5
          have hgle : GLe g' (A i) g4 (A (i + 1)) := fun x v r => hm5.lent x v (fun j hj => by
            have hne := rep_ids hh' r j hj
            cases hc : ks'.contains j with
            | true => show j ∈ ks'; simpa using hc
            | false => exact absurd (hLent.sup i j hc) hne) r
          exact ⟨hm5.reb rfl rfl (hh'.lent.trans hgle), hgle⟩
        have hsucc : ∀ c, cont i = c → (List.range (i + 1)).all cont = c := fun c hc => by rw [List.range_succ, List.all_append, hall]; simp [hc]
        rcases hcase with ⟨rfl, hgo⟩ | ⟨hgo, rfl, hj⟩
        · have ho : ost (i + 1) = rec_ .ready none := by show (if _ then _ else _) = _; rw [if_pos (hsucc true hgo)]
          obtain ⟨h5, h6⟩ := hend _ ho
          exact ⟨_, _, run_endRound none hheap4, g4, by rw [hgo]; rfl, h5, h6⟩
        · have ho : ost (i + 1) = rec_ .done (some (exCode (ex i))) := by show (if _ then _ else _) = _; rw [if_neg (by rw [hsucc false hgo]; simp)]; rfl
          obtain ⟨h5, h6⟩ := hend _ ho
          generalize hex : ex i = e0 at hj h5
          cases e0 with
          | exit id => exact ⟨_, _, run_endRound (some (.exit id)) hheap4, g4, by rw [hgo]; rfl, h5, h6⟩
          | ret => exact ⟨_, _, run_endRound (some .ret) hheap4, g4, by rw [hgo]; rfl, h5, h6⟩
          | _ => simp [isJump] at hj
end Go.Proofs.YticbdcpdooahjaaDoor
