/- The abstract machine: a region that draws its order, whole. -/
import Derived.Test.YticbdcpdooahjaaDoorAbsJ
namespace Go.Proofs.YticbdcpdooahjaaDoor
open Go Go.RowKit
set_option linter.unusedVariables false
set_option linter.unusedSimpArgs false
section
variable {P : Program} {ops : Array Oper} {Q : Exit → Act → World → Prop} {md : Region.Mode} {ro : Option Nat}
def kFalses (l : Array Bool) : Nat := l.toList.countP (! ·)
theorem kFalses_set {l : Array Bool} {i : Nat} (h : l.getD i true = false) : kFalses (l.setIfInBounds i true) + 1 = kFalses l := by
  obtain ⟨l⟩ := l
  unfold kFalses
  simp only [Array.getD_eq_getD_getElem?, List.getElem?_toArray] at h
  simp only [List.setIfInBounds_toArray]
  induction l generalizing i with
  | nil => simp at h
  | cons b l ih =>
    cases i with
    | zero => simp at h; subst h; simp
    | succ i =>
      simp only [List.getElem?_cons_succ] at h
      have := ih h
      simp only [List.set_cons_succ, List.countP_cons]
      omega
theorem kReady {listed : Array Bool} {i : Nat} (h : i ∈ Region.ready md ops listed) :
    listed.getD i true = false ∧ ∃ o, ops[i]? = some o ∧ ∀ e ∈ o.after, Region.binds md e = true → listed.getD e.on false = true := by
  unfold Region.ready at h
  rw [List.mem_filter] at h
  obtain ⟨h1, h2⟩ := h
  simp only [Bool.and_eq_true, Bool.not_eq_true'] at h2
  refine ⟨h2.1, ?_⟩
  cases ho : ops[i]? with
  | none => rw [ho] at h2; simp at h2
  | some o =>
    rw [ho] at h2
    refine ⟨o, rfl, fun e he hb => ?_⟩
    have h3 := h2.2
    simp only [Option.map_some, Option.getD_some, Array.all_eq_true'] at h3
    have := h3 e he
    simpa [hb] using this
theorem kAny_inv {Inv : Array Bool → Act → World → Prop}
    (hstep : ∀ (listed : Array Bool) (a : Act) (w : World) (i : Nat), listed.size = ops.size → Inv listed a w → i ∈ Region.ready md ops listed → wpOpIn (fen ro) 0 P ops Q i (fun a' w' => Inv (listed.setIfInBounds i true) a' w') a w)
    (hdone : ∀ (listed : Array Bool) (a : Act) (w : World), listed.size = ops.size → Inv listed a w → Region.ready md ops listed = [] → Q .normal a w) :
    ∀ (fuel : Nat) (listed : Array Bool) (a : Act) (w : World), listed.size = ops.size → kFalses listed ≤ fuel → Inv listed a w → wpAnyIn (fen ro) 0 P md ops Q fuel listed a w := by
  intro fuel
  induction fuel with
  | zero =>
    intro listed a w hs hf hi
    have hr : Region.ready md ops listed = [] := by
      cases h : Region.ready md ops listed with
      | nil => rfl
      | cons i r =>
        have hm : i ∈ Region.ready md ops listed := by rw [h]; simp
        have h1 := (kReady hm).1
        have := kFalses_set h1
        omega
    exact ⟨hr, hdone listed a w hs hi hr⟩
  | succ fuel ih =>
    intro listed a w hs hf hi
    refine ⟨hdone listed a w hs hi, fun i him => ?_⟩
    have h1 := kFalses_set (kReady him).1
    exact wpOpIn_mono (fun a' w' h => ih _ a' w' (by simpa using hs) (by omega) h) (hstep listed a w i hs hi him)
end
def stepsTo (P : Program) (all : List Oper) (i : Nat) (σ : St) (q : Option Res) (σ' : St) : Prop :=
  ∃ o, all[i]? = some o ∧ dstOk σ o ∧ match q with
    | some r => guardB all σ.env o = some true ∧ AStep P o (evalS σ.env) σ.H σ.nx r ∧ σ' = σ.step o r
    | none => guardB all σ.env o = some false ∧ σ' = σ.skip o
def footOf : Option Res → Foot
  | some r => ⟨r.fp, r.up.map (·.1)⟩
  | none => ⟨[], none⟩
theorem aops_trace {P : Program} {all : List Oper} {k : St → List Foot → Prop} : ∀ (l pre : List Oper) (σ : St) (tr : List Foot), all = pre ++ l → aops P all l σ tr k →
    ∃ (q : Nat → Option Res) (st : Nat → St), st pre.length = σ ∧ (∀ i, pre.length ≤ i → i < all.length → stepsTo P all i (st i) (q i) (st (i + 1))) ∧
      k (st all.length) (tr.reverse ++ (List.range' pre.length l.length).map (fun i => footOf (q i)))
  | [], pre, σ, tr, hall, h => by
    refine ⟨fun _ => none, fun _ => σ, rfl, fun i h1 h2 => ?_, by simpa [aops] using h⟩
    rw [hall] at h2; simp at h2; omega
  | o :: os, pre, σ, tr, hall, h => by
    have hlen : all.length = pre.length + (os.length + 1) := by rw [hall]; simp
    have hget : all[pre.length]? = some o := by rw [hall]; simp
    simp only [aops] at h
    split at h
    · exact h.elim
    · rename_i t ht
      have key : ∃ (q0 : Option Res) (σ1 : St), stepsTo P all pre.length σ q0 σ1 ∧ aops P all os σ1 (footOf q0 :: tr) k := by
        cases t with
        | true =>
          obtain ⟨r, hr1, hd, hrest⟩ := astep_get (h.1 rfl)
          exact ⟨some r, _, ⟨o, hget, hd, ht, hr1, rfl⟩, hrest⟩
        | false =>
          obtain ⟨hd, hrest⟩ := h.2 rfl
          exact ⟨none, _, ⟨o, hget, hd, ht, rfl⟩, hrest⟩
      obtain ⟨q0, σ1, hs, hrest⟩ := key
      obtain ⟨q, st, h0, hsteps, hk⟩ := aops_trace os (pre ++ [o]) σ1 (footOf q0 :: tr) (by simp [hall]) hrest
      simp only [List.length_append, List.length_cons, List.length_nil, Nat.zero_add] at h0 hsteps hk
      refine ⟨upd q pre.length q0, upd st pre.length σ, upd_same _ _ _, fun i h1 h2 => ?_, ?_⟩
      · by_cases hi : i = pre.length
        · subst hi
          rw [upd_same, upd_same, upd_ne _ _ (by omega), h0]; exact hs
        · rw [upd_ne _ _ hi, upd_ne _ _ hi, upd_ne _ _ (by omega)]
          exact hsteps i (by omega) h2
      · rw [upd_ne _ _ (by omega)]
        have e : (tr.reverse ++ (List.range' pre.length (o :: os).length).map (fun i => footOf (upd q pre.length q0 i))) = (footOf q0 :: tr).reverse ++ (List.range' (pre.length + 1) os.length).map (fun i => footOf (q i)) := by
          simp only [List.length_cons, List.range'_succ, List.map_cons, upd_same, List.reverse_cons, List.append_assoc, List.cons_append, List.nil_append]
          congr 2
          apply List.map_congr_left
          intro i hi
          rw [List.mem_range'_1] at hi
          rw [upd_ne _ _ (by omega)]
        rw [e]; exact hk
theorem guardB_congr {all : List Oper} {E E' : Nat → SV} {o : Oper} (h : ∀ t ∈ readsOf all o, E t = E' t) : guardB all E o = guardB all E' o := by
  unfold guardB
  cases hg : o.guard with
  | none => rfl
  | some q =>
    obtain ⟨j, want⟩ := q
    simp only
    cases hj : all[j]? with
    | none => rfl
    | some oj =>
      simp only
      cases hd : oj.dst with
      | none => rfl
      | some d =>
        simp only
        rw [h d (by simp [readsOf, hg, hj, hd])]
theorem evalS_congr {all : List Oper} {E E' : Nat → SV} {o : Oper} (h : ∀ t ∈ readsOf all o, E t = E' t) : ∀ x ∈ o.op.operands, evalS E x = evalS E' x := by
  intro x hx
  cases x with
  | tmp t => exact h t (by
      simp only [readsOf, List.mem_append, List.mem_filterMap]
      exact .inl ⟨.tmp t, by simpa using hx, rfl⟩)
  | _ => rfl
theorem hup_eq (H : Hp) (u : Option (Nat × HE)) : hup H u = updO H (u.map (·.1)) (u.map (·.2)) := by
  cases u with
  | none => rfl
  | some q => rfl
def ltF (i : Nat) : Nat → Bool := fun j => decide (j < i)
theorem ltF_succ (i : Nat) : ltF (i + 1) = addF (ltF i) i := by
  funext j
  unfold ltF addF
  by_cases h : j = i
  · subst h; simp
  · rw [if_neg h]
    exact decide_eq_decide.2 (by omega)
theorem lastW_none {α : Type} {N : Nat} {f : Nat → Bool} {key : Nat → Option Nat} {val base : Nat → α} (h : ∀ j, f j = false) : lastW N f key val base = base := by
  funext x
  unfold lastW
  have : (List.range N).reverse.find? (fun j => f j && key j == some x) = none := by
    rw [List.find?_eq_none]; intro j _; simp [h j]
  rw [this]
theorem wp_region_drawn {P : Program} {W0 : Fr} {K0 : Know} {id : Nat} {all : List Oper} {Q : Exit → Act → World → Prop} {k : St → List Foot → Prop} {g : G} {σ : St} {a : Act} {w : World} {ro : Option Nat} (hm : P.follows .mixedOrders = true) (hk : ∀ g σ tr a w, k σ tr → Rel W0 K0 g σ a w → Q .normal a w)
    (h : aops P all all σ [] (fun σ' tr => okTr all tr = true ∧ k σ' tr)) (hr : Rel W0 K0 g σ a w) : (Code.region id all.toArray true).wpIn (fen ro) 0 P Q a w := by
  obtain ⟨q, st, h0, hsteps, hok, hkk⟩ := aops_trace all [] σ [] rfl h
  simp only [List.length_nil, List.reverse_nil, List.nil_append, Nat.zero_le, forall_const] at h0 hsteps hok hkk
  have hfs : ∀ i, i < all.length → ((List.range' 0 all.length).map (fun i => footOf (q i)))[i]? = some (footOf (q i)) := fun i hi => by
    rw [List.getElem?_map, List.getElem?_range' (by simpa using hi)]; simp
  generalize hF : (List.range' 0 all.length).map (fun i => footOf (q i)) = fs at hok hkk hfs
  clear hF
  let vals : Nat → SV := fun i => match q i with | some r => r.v | none => .c (.d (.val undef))
  let upv : Nat → Option (Nat × HE) := fun i => match q i with | some r => r.up | none => none
  let key1 : Nat → Option Nat := fun i => (all[i]?).bind (·.dst)
  let key2 : Nat → Option Nat := fun i => (upv i).map (·.1)
  let val2 : Nat → Option HE := fun i => (upv i).map (·.2)
  let E : (Nat → Bool) → Nat → SV := fun f => lastW all.length f key1 vals σ.env
  let Hf : (Nat → Bool) → Hp := fun f => lastW all.length f key2 val2 σ.H
  have hwr : ∀ i, (footOf (q i)).wr = key2 i := fun i => by
    show _ = (upv i).map (·.1)
    simp only [upv]
    cases q i <;> rfl
  have hst : ∀ i, i ≤ all.length → (st i).env = E (ltF i) ∧ (st i).H = Hf (ltF i) ∧ (st i).sz = σ.sz ∧ (st i).fx = σ.fx := by
    intro i
    induction i with
    | zero =>
      intro _
      rw [h0]
      exact ⟨(lastW_none (fun j => by simp [ltF])).symm, (lastW_none (fun j => by simp [ltF])).symm, rfl, rfl⟩
    | succ i ih =>
      intro hi
      obtain ⟨he, hH, hz⟩ := ih (by omega)
      obtain ⟨o, ho, hd, hs⟩ := hsteps i (by omega)
      have e1 : E (ltF (i + 1)) = updO (E (ltF i)) (key1 i) (vals i) := by
        show lastW _ _ _ _ _ = _
        rw [ltF_succ]; exact lastW_add (by omega) (fun j x h1 _ _ _ => by simp [ltF]; omega)
      have e2 : Hf (ltF (i + 1)) = updO (Hf (ltF i)) (key2 i) (val2 i) := by
        show lastW _ _ _ _ _ = _
        rw [ltF_succ]; exact lastW_add (by omega) (fun j x h1 _ _ _ => by simp [ltF]; omega)
      have hk1 : key1 i = o.dst := by show (all[i]?).bind _ = _; rw [ho]; rfl
      cases hq : q i with
      | some r =>
        rw [hq] at hs
        obtain ⟨_, _, hs⟩ := hs
        have hv : vals i = r.v := by show (match q i with | some r => r.v | none => _) = _; rw [hq]
        have hu : upv i = r.up := by show (match q i with | some r => r.up | none => _) = _; rw [hq]
        rw [hs]
        refine ⟨?_, ?_, hz⟩
        · rw [e1, hk1, hv, ← he]
          show putE (st i).env o.dst r.v = _
          cases o.dst <;> rfl
        · rw [e2, ← hH]
          show hup (st i).H r.up = updO _ ((upv i).map _) ((upv i).map _)
          rw [hup_eq, hu]
      | none =>
        rw [hq] at hs
        obtain ⟨_, hs⟩ := hs
        have hv : vals i = .c (.d (.val undef)) := by show (match q i with | some r => r.v | none => _) = _; rw [hq]
        have hu : upv i = none := by show (match q i with | some r => r.up | none => _) = _; rw [hq]
        rw [hs]
        refine ⟨?_, ?_, hz⟩
        · rw [e1, hk1, hv, ← he]
          show putE (st i).env o.dst _ = _
          cases o.dst <;> rfl
        · rw [e2, ← hH]
          show (st i).H = updO _ ((upv i).map _) ((upv i).map _)
          rw [hu]; rfl
  let fOf : Array Bool → Nat → Bool := fun listed j => listed.getD j false
  refine wpIn_region_any hm (kAny_inv (Inv := fun listed a w => (∀ j o, all[j]? = some o → fOf listed j = true → ∀ i ∈ edgesOf o, fOf listed i = true) ∧ ∃ g, Rel W0 K0 g ⟨E (fOf listed), Hf (fOf listed), 0, σ.sz, σ.fx⟩ a w) ?_ ?_ _ _ _ _ (by simp) ?_ ?_)
  · intro listed a w i hls hinv hri
    obtain ⟨hcl, g, hrel⟩ := hinv
    obtain ⟨hun, o, ho, hedge⟩ := kReady hri
    have hlt : i < all.length := by have := (Array.getElem?_eq_some_iff.1 ho).1; simpa using this
    have hoi : all[i]? = some o := by simpa using ho
    have hlsz : i < listed.size := by rw [hls]; simpa using hlt
    have hfi : fOf listed i = false := by
      show listed.getD i false = false
      rw [Array.getD_eq_getD_getElem?, Array.getElem?_eq_getElem hlsz] at hun ⊢
      simpa using hun
    have hset : fOf (listed.setIfInBounds i true) = addF (fOf listed) i := by
      funext j
      show (listed.setIfInBounds i true).getD j false = _
      unfold addF
      rw [Array.getD_eq_getD_getElem?, Array.getElem?_setIfInBounds]
      by_cases hj : j = i
      · subst hj; simp [hlsz]
      · rw [if_neg (Ne.symm hj), if_neg hj]
        show _ = listed.getD j false
        rw [Array.getD_eq_getD_getElem?]
    have hcl' : ∀ j o', all[j]? = some o' → addF (fOf listed) i j = true → ∀ x ∈ edgesOf o', addF (fOf listed) i x = true := by
      intro j o' hj hf x hx
      by_cases hji : j = i
      · subst hji
        rw [hoi] at hj; cases hj
        simp only [edgesOf, List.mem_map, List.mem_filter] at hx
        obtain ⟨e, ⟨he, hb⟩, rfl⟩ := hx
        have := hedge e (by simpa using he) hb
        unfold addF; split
        · rfl
        · exact this
      · unfold addF at hf
        rw [if_neg hji] at hf
        have := hcl j o' hj hf x hx
        unfold addF; split
        · rfl
        · exact this
    obtain ⟨o', ho', hd, hs⟩ := hsteps i hlt
    rw [hoi] at ho'; cases ho'
    obtain ⟨hse, hsH, hssz⟩ := hst i (by omega)
    have hgetj : ∀ j, j < all.length → ∃ oj, all[j]? = some oj := fun j hj => ⟨_, List.getElem?_eq_getElem hj⟩
    -- behind: what comes later in the text and hangs on i is not yet done
    have hlater : ∀ j oj, i < j → all[j]? = some oj → needs all o oj (footOf (q i)) (footOf (q j)) = true → fOf listed j = false := by
      intro j oj hij hj hn
      cases hfj : fOf listed j with
      | false => rfl
      | true =>
        have := okTr_pair hok hij hoi hj (hfs i hlt) (hfs j (List.getElem?_eq_some_iff.1 hj).1) hn (L := fun x => fOf listed x = true) hcl hfj
        rw [hfi] at this; cases this
    have hearlier : ∀ j oj, j < i → all[j]? = some oj → needs all oj o (footOf (q j)) (footOf (q i)) = true → fOf listed j = true := by
      intro j oj hij hj hn
      have := okTr_pair hok hij hj hoi (hfs j (by omega)) (hfs i hlt) hn (L := fun x => addF (fOf listed) i x = true) hcl' (by simp [addF])
      unfold addF at this
      rw [if_neg (by omega)] at this
      exact this
    have hA : ∀ t ∈ readsOf all o, E (fOf listed) t = (st i).env t := by
      intro t ht
      rw [hse]
      refine lastW_congr (fun j hj hkj => ?_)
      obtain ⟨oj, hoj⟩ := hgetj j hj
      have hdj : oj.dst = some t := by have : (all[j]?).bind (·.dst) = some t := hkj; rw [hoj] at this; exact this
      rcases Nat.lt_trichotomy j i with h | h | h
      · rw [hearlier j oj h hoj (needs_dst hdj (.inl ht))]; simp [ltF, h]
      · subst h; rw [hfi]; simp [ltF]
      · rw [hlater j oj h hoj (needs_read hdj ht)]; simp [ltF]; omega
    have hB : ∀ x ∈ (footOf (q i)).fp, Hf (fOf listed) x = (st i).H x := by
      intro x hx
      rw [hsH]
      refine lastW_congr (fun j hj hkj => ?_)
      obtain ⟨oj, hoj⟩ := hgetj j hj
      have hwj : (footOf (q j)).wr = some x := (hwr j).trans hkj
      rcases Nat.lt_trichotomy j i with h | h | h
      · rw [hearlier j oj h hoj (needs_wr hwj hx)]; simp [ltF, h]
      · subst h; rw [hfi]; simp [ltF]
      · rw [hlater j oj h hoj (needs_wr' hwj hx)]; simp [ltF]; omega
    have hE1 : E (addF (fOf listed) i) = updO (E (fOf listed)) (key1 i) (vals i) := by
      refine lastW_add hlt (fun j x h1 h2 hki hkj => ?_)
      obtain ⟨oj, hoj⟩ := hgetj j h2
      have hdi : o.dst = some x := by have : (all[i]?).bind (·.dst) = some x := hki; rw [hoi] at this; exact this
      have hdj : oj.dst = some x := by have : (all[j]?).bind (·.dst) = some x := hkj; rw [hoj] at this; exact this
      exact hlater j oj h1 hoj (needs_dst hdi (.inr hdj))
    have hH1 : Hf (addF (fOf listed) i) = updO (Hf (fOf listed)) (key2 i) (val2 i) := by
      refine lastW_add hlt (fun j x h1 h2 hki hkj => ?_)
      obtain ⟨oj, hoj⟩ := hgetj j h2
      have hwi : (footOf (q i)).wr = some x := (hwr i).trans hki
      have hwj : (footOf (q j)).wr = some x := (hwr j).trans hkj
      exact hlater j oj h1 hoj (needs_wr hwi (okTr_wr hok (hfs j h2) hwj))
    have hk1 : key1 i = o.dst := by show (all[i]?).bind _ = _; rw [hoi]; rfl
    have hd' : dstOk ⟨E (fOf listed), Hf (fOf listed), (st i).nx, σ.sz, σ.fx⟩ o := by
      unfold dstOk at hd ⊢
      rw [hssz.1] at hd; exact hd
    have hrel' : Rel W0 K0 g ⟨E (fOf listed), Hf (fOf listed), (st i).nx, σ.sz, σ.fx⟩ a w := ⟨hrel.mem, hrel.env, hrel.size, hrel.defers, hrel.ln, hrel.rd, hrel.nodup, hrel.lt⟩
    have hgb : guardB all (E (fOf listed)) o = guardB all (st i).env o := guardB_congr hA
    unfold wpOpIn
    rw [ho]
    simp only
    cases hq : q i with
    | some r =>
      rw [hq] at hs
      obtain ⟨hgd, hast, _⟩ := hs
      have hw := guard_wanted (a := a) (env := E (fOf listed)) (fun _ _ _ d _ _ _ => hrel.env d) (hgb.trans hgd)
      rw [hw, if_pos rfl]
      have hv : vals i = r.v := by show (match q i with | some r => r.v | none => _) = _; rw [hq]
      have hu : upv i = r.up := by show (match q i with | some r => r.up | none => _) = _; rw [hq]
      have hloc : AStep P o (evalS (E (fOf listed))) (Hf (fOf listed)) (st i).nx r :=
        hast.local (fun x hx => (evalS_congr hA x hx).symm) (fun x hx => hB x (by rw [hq]; exact hx))
      refine Oper.wpIn_mono ?_ (step_rel hrel' hloc hd' ro Q)
      rintro a' w' ⟨g', hr'⟩
      rw [hset]
      refine ⟨hcl', g', ?_⟩
      have e1 : E (addF (fOf listed) i) = putE (E (fOf listed)) o.dst r.v := by
        rw [hE1, hk1, hv]; cases o.dst <;> rfl
      have e2 : Hf (addF (fOf listed) i) = hup (Hf (fOf listed)) r.up := by
        rw [hH1, hup_eq]
        show updO _ ((upv i).map _) ((upv i).map _) = _
        rw [hu]
      rw [e1, e2]
      exact ⟨hr'.mem, hr'.env, hr'.size, hr'.defers, hr'.ln, hr'.rd, hr'.nodup, hr'.lt⟩
    | none =>
      rw [hq] at hs
      obtain ⟨hgd, _⟩ := hs
      have hw := guard_wanted (a := a) (env := E (fOf listed)) (fun _ _ _ d _ _ _ => hrel.env d) (hgb.trans hgd)
      rw [hw, if_neg (by simp)]
      have hv : vals i = .c (.d (.val undef)) := by show (match q i with | some r => r.v | none => _) = _; rw [hq]
      have hu : upv i = none := by show (match q i with | some r => r.up | none => _) = _; rw [hq]
      refine ⟨fun _ _ => trivial, ?_⟩
      rw [hset]
      refine ⟨hcl', g, ?_⟩
      have e1 : E (addF (fOf listed) i) = putE (E (fOf listed)) o.dst (.c (.d (.val undef))) := by
        rw [hE1, hk1, hv]; cases o.dst <;> rfl
      have e2 : Hf (addF (fOf listed) i) = Hf (fOf listed) := by
        rw [hH1]
        show updO _ ((upv i).map _) ((upv i).map _) = _
        rw [hu]; rfl
      have := skip_rel hrel' hd'
      rw [e1, e2]
      exact ⟨this.mem, this.env, this.size, this.defers, this.ln, this.rd, this.nodup, this.lt⟩
  · intro listed a w hls hinv hready
    obtain ⟨hcl, g, hrel⟩ := hinv
    have hall : ∀ n j, j < n → j < all.length → fOf listed j = true := by
      intro n
      induction n with
      | zero => intro j h; omega
      | succ n ih =>
        intro j hj hjl
        cases hfj : fOf listed j with
        | true => rfl
        | false =>
          exfalso
          obtain ⟨oj, hoj⟩ : ∃ oj, all[j]? = some oj := ⟨_, List.getElem?_eq_getElem hjl⟩
          have hjs : j < listed.size := by rw [hls]; simpa using hjl
          have : j ∈ Region.ready .any all.toArray listed := by
            unfold Region.ready
            rw [List.mem_filter]
            refine ⟨by simpa using hjl, ?_⟩
            have h1 : listed.getD j true = false := by
              have : listed.getD j false = false := hfj
              rw [Array.getD_eq_getD_getElem?, Array.getElem?_eq_getElem hjs] at this ⊢
              simpa using this
            simp only [h1, Bool.not_false, Bool.true_and, List.getElem?_toArray, hoj, Option.map_some, Option.getD_some, Array.all_eq_true']
            intro e he
            cases hb : Region.binds .any e with
            | false => simp
            | true =>
              have hm : e.on ∈ edgesOf oj := by
                simp only [edgesOf, List.mem_map, List.mem_filter]
                exact ⟨e, ⟨by simpa using he, hb⟩, rfl⟩
              have hlt := okTr_back hok hoj hm
              have := ih e.on (by omega) (by omega)
              have this : listed.getD e.on false = true := this
              simp [this]
          rw [hready] at this
          simp at this
    obtain ⟨hse, hsH, hssz⟩ := hst all.length (Nat.le_refl _)
    have e1 : E (fOf listed) = (st all.length).env := by
      rw [hse]; funext t
      exact lastW_congr (fun j hj _ => by rw [hall _ j (Nat.lt_succ_self j) hj]; simp [ltF, hj])
    have e2 : Hf (fOf listed) = (st all.length).H := by
      rw [hsH]; funext t
      exact lastW_congr (fun j hj _ => by rw [hall _ j (Nat.lt_succ_self j) hj]; simp [ltF, hj])
    rw [e1, e2] at hrel
    exact hk g (st all.length) fs a w hkk ⟨hrel.mem, hrel.env, by rw [hssz.1]; exact hrel.size, by rw [hssz.2]; exact hrel.defers, by rw [hssz.2]; exact hrel.ln, by rw [hssz.2]; exact hrel.rd, by rw [hssz.2]; exact hrel.nodup, by rw [hssz.2]; exact hrel.lt⟩
  · exact Nat.le_trans List.countP_le_length (by simp)
  · have hf : ∀ j, fOf (Array.replicate all.toArray.size false) j = false := fun j => by
      show (Array.replicate _ false).getD j false = false
      rw [Array.getD_eq_getD_getElem?]
      simp only [Array.getElem?_replicate]
      split <;> rfl
    refine ⟨(fun j o hj h => absurd h (by rw [hf j]; simp)), g, ?_⟩
    have e1 : E (fOf (Array.replicate all.toArray.size false)) = σ.env := lastW_none hf
    have e2 : Hf (fOf (Array.replicate all.toArray.size false)) = σ.H := lastW_none hf
    rw [e1, e2]
    exact ⟨hr.mem.drew, hr.env, hr.size, hr.defers, hr.ln, hr.rd, hr.nodup, hr.lt⟩
end Go.Proofs.YticbdcpdooahjaaDoor
