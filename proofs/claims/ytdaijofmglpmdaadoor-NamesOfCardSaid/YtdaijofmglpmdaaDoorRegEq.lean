/- A region that draws its order and whose operations agree in whatever order: its outcome is that of the order of the text. (Loads and plain operations that yield the same at every stage; effects that are ordered among themselves.) -/
import Derived.OrdersIn
import Derived.RowKit
namespace Go.Proofs.YtdaijofmglpmdaaDoor
open Go
section
variable {F : Fence} {n : Nat} {P : Program} {ops : Array Oper} {Q : Exit → Act → World → Prop} {md : Region.Mode}

def falses (l : Array Bool) : Nat := l.toList.countP (! ·)
theorem falses_set {l : Array Bool} {i : Nat} (h : l.getD i true = false) : falses (l.setIfInBounds i true) + 1 = falses l := by
  obtain ⟨l⟩ := l
  unfold falses
  simp only [Array.getD_eq_getD_getElem?, List.getElem?_toArray] at h
  simp only [List.setIfInBounds_toArray]
  induction l generalizing i with
  | nil => simp at h
  | cons b l ih =>
    cases i with
    | zero => simp at h; subst h; simp
    | succ i =>
      simp only [List.getElem?_cons_succ] at h
      have := ih h
      simp only [List.set_cons_succ, List.countP_cons]
      omega
theorem ready_mem {listed : Array Bool} {i : Nat} (h : i ∈ Region.ready md ops listed) :
    listed.getD i true = false ∧ ∃ o, ops[i]? = some o ∧ ∀ e ∈ o.after, Region.binds md e = true → listed.getD e.on false = true := by
  unfold Region.ready at h
  rw [List.mem_filter] at h
  obtain ⟨h1, h2⟩ := h
  simp only [Bool.and_eq_true, Bool.not_eq_true'] at h2
  refine ⟨h2.1, ?_⟩
  cases ho : ops[i]? with
  | none => rw [ho] at h2; simp at h2
  | some o =>
    rw [ho] at h2
    refine ⟨o, rfl, fun e he hb => ?_⟩
    have h3 := h2.2
    simp only [Option.map_some, Option.getD_some, Array.all_eq_true'] at h3
    have := h3 e he
    simpa [hb] using this
theorem wpAnyIn_inv {Inv : Array Bool → Act → World → Prop}
    (hstep : ∀ (listed : Array Bool) (a : Act) (w : World) (i : Nat), listed.size = ops.size → Inv listed a w → i ∈ Region.ready md ops listed → wpOpIn F n P ops Q i (fun a' w' => Inv (listed.setIfInBounds i true) a' w') a w)
    (hdone : ∀ (listed : Array Bool) (a : Act) (w : World), listed.size = ops.size → Inv listed a w → Region.ready md ops listed = [] → Q .normal a w) :
    ∀ (fuel : Nat) (listed : Array Bool) (a : Act) (w : World), listed.size = ops.size → falses listed ≤ fuel → Inv listed a w → wpAnyIn F n P md ops Q fuel listed a w := by
  intro fuel
  induction fuel with
  | zero =>
    intro listed a w hs hf hi
    have hr : Region.ready md ops listed = [] := by
      cases h : Region.ready md ops listed with
      | nil => rfl
      | cons i r =>
        have hm : i ∈ Region.ready md ops listed := by rw [h]; simp
        have h1 := (ready_mem hm).1
        have := falses_set h1
        omega
    exact ⟨hr, hdone listed a w hs hi hr⟩
  | succ fuel ih =>
    intro listed a w hs hf hi
    refine ⟨hdone listed a w hs hi, fun i him => ?_⟩
    have h1 := falses_set (ready_mem him).1
    exact wpOpIn_mono (fun a' w' h => ih _ a' w' (by simpa using hs) (by omega) h) (hstep listed a w i hs hi him)
theorem wpAny_inv {Inv : Array Bool → Act → World → Prop}
    (hstep : ∀ (listed : Array Bool) (a : Act) (w : World) (i : Nat), listed.size = ops.size → Inv listed a w → i ∈ Region.ready md ops listed → wpOp P ops Q i (fun a' w' => Inv (listed.setIfInBounds i true) a' w') a w)
    (hdone : ∀ (listed : Array Bool) (a : Act) (w : World), listed.size = ops.size → Inv listed a w → Region.ready md ops listed = [] → Q .normal a w) :
    ∀ (fuel : Nat) (listed : Array Bool) (a : Act) (w : World), listed.size = ops.size → falses listed ≤ fuel → Inv listed a w → wpAny P md ops Q fuel listed a w := by
  intro fuel
  induction fuel with
  | zero =>
    intro listed a w hs hf hi
    have hr : Region.ready md ops listed = [] := by
      cases h : Region.ready md ops listed with
      | nil => rfl
      | cons i r =>
        have hm : i ∈ Region.ready md ops listed := by rw [h]; simp
        have h1 := (ready_mem hm).1
        have := falses_set h1
        omega
    exact ⟨hr, hdone listed a w hs hi hr⟩
  | succ fuel ih =>
    intro listed a w hs hf hi
    refine ⟨hdone listed a w hs hi, fun i him => ?_⟩
    have h1 := falses_set (ready_mem him).1
    exact wpOp_mono (fun a' w' h => ih _ a' w' (by simpa using hs) (by omega) h) (hstep listed a w i hs hi him)

/-- The frame in which just the listed operations have left their values. -/
def putsOf (ops : Array Oper) (vals : Nat → Value) (f : Nat → Bool) (a : Act) (L : List Nat) : Act :=
  L.foldl (fun a i => if f i then a.put (ops.getD i default).dst (vals i) else a) a
theorem putsOf_put (vals : Nat → Value) (f : Nat → Bool) (d : Option Tmp) (v : Value) : ∀ (L : List Nat) (a : Act), (∀ j ∈ L, ∀ t, d = some t → (ops.getD j default).dst ≠ some t) →
    (putsOf ops vals f a L).put d v = putsOf ops vals f (a.put d v) L := by
  intro L
  induction L with
  | nil => intro a _; rfl
  | cons j L ih =>
    intro a h
    simp only [putsOf, List.foldl_cons] at *
    have hj : ∀ t, (ops.getD j default).dst = some t → d ≠ some t := fun t ht hd => h j (by simp) t hd ht
    rw [ih _ (fun k hk => h k (by simp [hk]))]
    split
    · rw [Act.put_comm a _ _ hj]
    · rfl
theorem putsOf_congr (vals : Nat → Value) (f g : Nat → Bool) : ∀ (L : List Nat) (a : Act), (∀ j ∈ L, f j = g j) → putsOf ops vals f a L = putsOf ops vals g a L := by
  intro L
  induction L with
  | nil => intro a _; rfl
  | cons j L ih =>
    intro a h
    simp only [putsOf, List.foldl_cons] at *
    rw [h j (by simp)]
    exact ih _ (fun k hk => h k (by simp [hk]))
theorem putsOf_append (vals : Nat → Value) (f : Nat → Bool) (a : Act) (L M : List Nat) : putsOf ops vals f a (L ++ M) = putsOf ops vals f (putsOf ops vals f a L) M := by simp [putsOf]
theorem putsOf_set (vals : Nat → Value) (f : Nat → Bool) (a : Act) (N i : Nat) (hi : i < N) (hf : f i = false)
    (hd : ∀ j, i < j → j < N → ∀ t, (ops.getD i default).dst = some t → (ops.getD j default).dst ≠ some t) :
    (putsOf ops vals f a (List.range N)).put (ops.getD i default).dst (vals i) = putsOf ops vals (fun j => if j = i then true else f j) a (List.range N) := by
  have hr : List.range N = List.range i ++ (i :: (List.range' (i + 1) (N - i - 1))) := by
    rw [List.range_eq_range', List.range_eq_range']
    have : (i :: List.range' (i + 1) (N - i - 1)) = List.range' i (N - i) := by
      rw [show N - i = (N - i - 1) + 1 from by omega, List.range'_succ]; simp
    rw [this]
    have h := List.range'_append (s := 0) (m := i) (n := N - i) (step := 1)
    rw [show i + (N - i) = N from by omega] at h
    simpa using h.symm
  have hmem : ∀ j, j ∈ List.range' (i + 1) (N - i - 1) → i < j ∧ j < N := fun j hj => by rw [List.mem_range'_1] at hj; omega
  rw [hr, putsOf_append, putsOf_append]
  have e1 : putsOf ops vals (fun j => if j = i then true else f j) a (List.range i) = putsOf ops vals f a (List.range i) :=
    putsOf_congr _ _ _ _ _ (fun j hj => by rw [List.mem_range] at hj; simp [show ¬ j = i from by omega])
  rw [e1]
  generalize putsOf ops vals f a (List.range i) = b
  show (putsOf ops vals f (if f i then _ else b) _).put _ _ = putsOf ops vals _ (if (if i = i then true else f i) then _ else b) _
  rw [hf]
  simp only [if_true, Bool.false_eq_true, if_false]
  rw [putsOf_put vals f _ _ _ _ (fun j hj t ht => hd j (hmem j hj).1 (hmem j hj).2 t ht)]
  exact putsOf_congr _ _ _ _ _ (fun j hj => by have := hmem j hj; simp [show ¬ j = i from by omega])
theorem putsOf_size (vals : Nat → Value) (f : Nat → Bool) : ∀ (L : List Nat) (a : Act), (putsOf ops vals f a L).tmps.size = a.tmps.size := by
  intro L
  induction L with
  | nil => intro a; rfl
  | cons j L ih =>
    intro a
    simp only [putsOf, List.foldl_cons] at *
    rw [ih]
    split
    · unfold Act.put; split <;> simp
    · rfl
/-- What a temporary holds there: the last listed operation that writes it says; if there is none, what it held. -/
theorem putsOf_tmp (vals : Nat → Value) (f : Nat → Bool) (t : Tmp) : ∀ (L : List Nat) (a : Act), (∀ j ∈ L, f j = true → (ops.getD j default).dst ≠ some t) → (putsOf ops vals f a L).tmps[t]? = a.tmps[t]? := by
  intro L
  induction L with
  | nil => intro a _; rfl
  | cons j L ih =>
    intro a h
    simp only [putsOf, List.foldl_cons] at *
    rw [ih _ (fun k hk => h k (by simp [hk]))]
    split
    · rename_i hf
      have := h j (by simp) hf
      unfold Act.put
      split
      · rename_i d hd
        have hne : d ≠ t := fun e => this (by rw [hd, e])
        simp [Array.getElem?_setIfInBounds_ne hne]
      · rfl
    · rfl
theorem putsOf_tmp_at (vals : Nat → Value) (f : Nat → Bool) (t : Tmp) (a : Act) (N i : Nat) (hi : i < N) (hf : f i = true) (ht : (ops.getD i default).dst = some t) (hlt : t < a.tmps.size)
    (hd : ∀ j, i < j → j < N → (ops.getD j default).dst ≠ some t) : (putsOf ops vals f a (List.range N)).tmps[t]? = some (vals i) := by
  have hr : List.range N = List.range (i + 1) ++ List.range' (i + 1) (N - i - 1) := by
    rw [List.range_eq_range', List.range_eq_range']
    have h := List.range'_append (s := 0) (m := i + 1) (n := N - i - 1) (step := 1)
    rw [show i + 1 + (N - i - 1) = N from by omega] at h
    simpa using h.symm
  rw [hr, putsOf_append, putsOf_tmp vals f t _ _ (fun j hj _ => by rw [List.mem_range'_1] at hj; exact hd j (by omega) (by omega)), List.range_succ, putsOf_append]
  have hz := putsOf_size (ops := ops) vals f (List.range i) a
  generalize putsOf ops vals f a (List.range i) = b at hz
  show ((if f i then b.put (ops.getD i default).dst (vals i) else b).tmps)[t]? = _
  rw [hf, ht]
  simp only [if_true, Act.put]
  have hb : t < b.tmps.size := by rw [hz]; exact hlt
  simp [hb]

def depsOn (o : Oper) (j : Nat) : Bool := o.after.any fun e => Region.binds .any e && e.on == j
def opAt (ops : Array Oper) (i : Nat) : Oper := ops.getD i default
/-- What an operand of operation i is in every order: what the operations on which i hangs have left; else what the frame held. -/
def regEval (ops : Array Oper) (vals : Nat → Value) (a : Act) (i : Nat) : Operand → Value
  | .tmp t => match (List.range ops.size).find? (fun j => (opAt ops j).dst == some t && depsOn (opAt ops i) j) with
    | some j => vals j
    | none => a.tmps.getD t undef
  | x => a.eval x
def wantedV (ops : Array Oper) (vals : Nat → Value) (i : Nat) : Bool :=
  match (opAt ops i).guard with
  | none => true
  | some (g, want) => match vals g with
    | .bool b => b == want
    | _ => false
def isTmp (t : Tmp) : Operand → Bool
  | .tmp u => u == t
  | _ => false
def okR (ops : Array Oper) (eff : List Nat) (size : Nat) : Bool :=
  ((List.range ops.size).all fun i =>
    ((opAt ops i).after.all fun e => !Region.binds .any e || decide (e.on < i)) &&
    (match (opAt ops i).op with | .select .. => false | .defer .. => false | _ => true) &&
    (match (opAt ops i).dst with | some t => decide (t < size) | none => true) &&
    ((List.range ops.size).all fun j => j == i || (match (opAt ops i).dst with | some t => (opAt ops j).dst != some t | none => true)) &&
    ((List.range ops.size).all fun j => match (opAt ops j).dst with
      | some t => !((opAt ops i).op.operands.any (isTmp t)) || j == i || depsOn (opAt ops i) j || depsOn (opAt ops j) i
      | none => true) &&
    (match (opAt ops i).guard with | none => true | some (g, _) => depsOn (opAt ops i) g && (opAt ops g).dst.isSome && decide (g < ops.size))) &&
  (eff.all fun i => decide (i < ops.size)) && ((List.range eff.length).all fun k => k == 0 || depsOn (opAt ops (eff.getD k 0)) (eff.getD (k - 1) 0))
structure OkR (ops : Array Oper) (eff : List Nat) (size : Nat) : Prop where
  back : ∀ i, i < ops.size → ∀ e ∈ (opAt ops i).after, Region.binds .any e = true → e.on < i
  sel : ∀ i, i < ops.size → ∀ cs b, (opAt ops i).op ≠ .select cs b
  dfr : ∀ i, i < ops.size → ∀ c, (opAt ops i).op ≠ .defer c
  lt : ∀ i, i < ops.size → ∀ t : Tmp, (opAt ops i).dst = some t → t < size
  once : ∀ i, i < ops.size → ∀ j, j < ops.size → j ≠ i → ∀ t, (opAt ops i).dst = some t → (opAt ops j).dst ≠ some t
  reads : ∀ i, i < ops.size → ∀ j, j < ops.size → ∀ t, (opAt ops j).dst = some t → .tmp t ∈ (opAt ops i).op.operands → j = i ∨ depsOn (opAt ops i) j = true ∨ depsOn (opAt ops j) i = true
  guard : ∀ i, i < ops.size → ∀ g want, (opAt ops i).guard = some (g, want) → depsOn (opAt ops i) g = true ∧ (∃ t, (opAt ops g).dst = some t) ∧ g < ops.size
  effs : ∀ i ∈ eff, i < ops.size
  chain : ∀ k, k + 1 < eff.length → depsOn (opAt ops (eff.getD (k + 1) 0)) (eff.getD k 0) = true
theorem okR_ok {eff : List Nat} {size : Nat} (h : okR ops eff size = true) : OkR ops eff size := by
  unfold okR at h
  rw [Bool.and_eq_true, Bool.and_eq_true] at h
  obtain ⟨⟨h1, h2⟩, h3⟩ := h
  have h1 : ∀ i, i < ops.size → _ := fun i hi => (List.all_eq_true.1 h1) i (List.mem_range.2 hi)
  simp only [Bool.and_eq_true] at h1
  refine ⟨fun i hi e he hb => ?_, fun i hi cs b hc => ?_, fun i hi c hc => ?_, fun i hi t ht => ?_, fun i hi j hj hne t ht hj' => ?_, fun i hi j hj t ht hm => ?_, fun i hi g want hg => ?_, fun i hi => ?_, fun k hk => ?_⟩
  · have := (Array.all_eq_true'.1 (h1 i hi).1.1.1.1.1) e he
    simpa [hb] using this
  · have := (h1 i hi).1.1.1.1.2; rw [hc] at this; cases this
  · have := (h1 i hi).1.1.1.1.2; rw [hc] at this; cases this
  · have := (h1 i hi).1.1.1.2; rw [ht] at this; simpa using this
  · have := (List.all_eq_true.1 (h1 i hi).1.1.2) j (List.mem_range.2 hj)
    rw [ht] at this
    simp [hne, hj'] at this
  · have := (List.all_eq_true.1 (h1 i hi).1.2) j (List.mem_range.2 hj)
    rw [ht] at this
    have ha : ((opAt ops i).op.operands.any (isTmp t)) = true := by
      rw [Array.any_eq_true']; exact ⟨_, hm, by simp [isTmp]⟩
    simp only [ha, Bool.not_true, Bool.false_or, Bool.or_eq_true, beq_iff_eq] at this
    rcases this with (h | h) | h
    · exact .inl h
    · exact .inr (.inl h)
    · exact .inr (.inr h)
  · have := (h1 i hi).2
    rw [hg] at this
    simp only [Bool.and_eq_true, decide_eq_true_eq] at this
    exact ⟨this.1.1, Option.isSome_iff_exists.1 this.1.2, this.2⟩
  · simpa using (List.all_eq_true.1 h2) i hi
  · have := (List.all_eq_true.1 h3) (k + 1) (List.mem_range.2 hk)
    simpa using this
theorem depsOn_listed {o : Oper} {j : Nat} {listed : Array Bool} (h : depsOn o j = true) (hl : ∀ e ∈ o.after, Region.binds .any e = true → listed.getD e.on false = true) : listed.getD j false = true := by
  unfold depsOn at h
  rw [Array.any_eq_true'] at h
  obtain ⟨e, he, hb⟩ := h
  simp only [Bool.and_eq_true, beq_iff_eq] at hb
  rw [← hb.2]; exact hl e he hb.1
structure RInv (ops : Array Oper) (eff : List Nat) (vals : Nat → Value) (Wd : Nat → World) (a : Act) (listed : Array Bool) (a' : Act) (w' : World) : Prop where
  act : a' = putsOf ops vals (fun i => listed.getD i false) a (List.range ops.size)
  closed : ∀ i, i < ops.size → listed.getD i false = true → ∀ e ∈ (opAt ops i).after, Region.binds .any e = true → listed.getD e.on false = true
  world : ∃ k, k ≤ eff.length ∧ w' = Wd k ∧ ∀ j, j < eff.length → listed.getD (eff.getD j 0) false = decide (j < k)
variable {eff : List Nat} {vals : Nat → Value} {Wd : Nat → World} {a : Act}
theorem RInv.tmp {listed : Array Bool} {a' : Act} {w' : World} (hok : OkR ops eff a.tmps.size) (h : RInv ops eff vals Wd a listed a' w') {j : Nat} {t : Tmp} (hj : j < ops.size) (hd : (opAt ops j).dst = some t) (hl : listed.getD j false = true) : a'.tmps[t]? = some (vals j) := by
  rw [h.act]
  exact putsOf_tmp_at vals _ t a ops.size j hj hl hd (hok.lt j hj t hd) (fun k hk hks => hok.once j hj k hks (by omega) t hd)
theorem RInv.eval {listed : Array Bool} {a' : Act} {w' : World} (hok : OkR ops eff a.tmps.size) (h : RInv ops eff vals Wd a listed a' w') {i : Nat} (hi : i < ops.size) (hu : listed.getD i false = false)
    (hl : ∀ e ∈ (opAt ops i).after, Region.binds .any e = true → listed.getD e.on false = true) : ∀ x ∈ (opAt ops i).op.operands, a'.eval x = regEval ops vals a i x := by
  intro x hx
  cases x with
  | const v => rfl
  | global g => rfl
  | func f => rfl
  | tmp t =>
    show a'.tmps.getD t undef = _
    simp only [regEval]
    cases hf : (List.range ops.size).find? (fun j => (opAt ops j).dst == some t && depsOn (opAt ops i) j) with
    | some j =>
      have h1 := List.find?_some hf
      have h2 := List.mem_range.1 (List.mem_of_find?_eq_some hf)
      simp only [Bool.and_eq_true, beq_iff_eq] at h1
      have := h.tmp hok h2 h1.1 (depsOn_listed h1.2 hl)
      simp [this]
    | none =>
      have hn := List.find?_eq_none.1 hf
      have : a'.tmps[t]? = a.tmps[t]? := by
        rw [h.act]
        refine putsOf_tmp vals _ t _ _ (fun j hj hlj hdj => ?_)
        have hjs := List.mem_range.1 hj
        have hnj := hn j hj
        rcases hok.reads i hi j hjs t hdj hx with rfl | hd | hd
        · rw [hu] at hlj; cases hlj
        · exact hnj (by simp [hd, show (opAt ops j).dst = some t from hdj])
        · have := depsOn_listed hd (h.closed j hjs hlj)
          rw [hu] at this; cases this
      simp [this]
theorem RInv.wanted {listed : Array Bool} {a' : Act} {w' : World} (hok : OkR ops eff a.tmps.size) (h : RInv ops eff vals Wd a listed a' w') {i : Nat} (hi : i < ops.size)
    (hl : ∀ e ∈ (opAt ops i).after, Region.binds .any e = true → listed.getD e.on false = true) : Region.wanted (opAt ops i) (yielded ops a'.tmps) = wantedV ops vals i := by
  unfold Region.wanted wantedV
  cases hg : (opAt ops i).guard with
  | none => rfl
  | some gw =>
    obtain ⟨g, want⟩ := gw
    obtain ⟨hd, ⟨t, ht⟩, hgs⟩ := hok.guard i hi g want hg
    have hv := h.tmp hok hgs ht (depsOn_listed hd hl)
    have ho : ops[g]? = some (opAt ops g) := by simp [opAt, Array.getD_eq_getD_getElem?, hgs]
    simp only [yielded, ho, Option.bind_some, ht, hv]
    cases vals g <;> simp
theorem RInv.put {listed : Array Bool} {a' : Act} {w' : World} (hok : OkR ops eff a.tmps.size) (h : RInv ops eff vals Wd a listed a' w') {i : Nat} (hi : i < ops.size) (hs : listed.size = ops.size) (hu : listed.getD i false = false) :
    a'.put (opAt ops i).dst (vals i) = putsOf ops vals (fun j => (listed.setIfInBounds i true).getD j false) a (List.range ops.size) := by
  rw [h.act, show (opAt ops i).dst = (ops.getD i default).dst from rfl, putsOf_set vals _ a ops.size i hi hu (fun j hj hjs t ht => hok.once i hi j hjs (by omega) t ht)]
  refine putsOf_congr _ _ _ _ _ (fun j hj => ?_)
  have hjs := List.mem_range.1 hj
  by_cases e : j = i
  · subst e; simp [Array.getD_eq_getD_getElem?, hs, hjs]
  · simp [e, Array.getD_eq_getD_getElem?, Ne.symm (a := j) (b := i) e]
theorem set_getD {listed : Array Bool} {i : Nat} (hi : i < listed.size) (j : Nat) : (listed.setIfInBounds i true).getD j false = if j = i then true else listed.getD j false := by
  by_cases e : j = i
  · subst e; simp [Array.getD_eq_getD_getElem?, hi]
  · simp [e, Array.getD_eq_getD_getElem?, Ne.symm (a := j) (b := i) e]
theorem RInv.done {listed : Array Bool} {a' : Act} {w' : World} (hok : OkR ops eff a.tmps.size) (hs : listed.size = ops.size) (h : RInv ops eff vals Wd a listed a' w') (hr : Region.ready .any ops listed = []) :
    a' = putsOf ops vals (fun _ => true) a (List.range ops.size) ∧ w' = Wd eff.length := by
  have all : ∀ i, i < ops.size → listed.getD i false = true := by
    intro i
    induction i using Nat.strongRecOn with
    | _ i ih =>
      intro hi
      cases hl : listed.getD i false with
      | true => rfl
      | false =>
        exfalso
        have hm : i ∈ Region.ready .any ops listed := by
          unfold Region.ready
          rw [List.mem_filter]
          refine ⟨List.mem_range.2 hi, ?_⟩
          have ho : ops[i]? = some (opAt ops i) := by simp [opAt, Array.getD_eq_getD_getElem?, hi]
          have hl2 : listed.getD i true = false := by
            simp only [Array.getD_eq_getD_getElem?] at hl ⊢
            rw [Array.getElem?_eq_getElem (by omega)] at hl ⊢
            simpa using hl
          rw [ho, hl2]
          simp only [Bool.not_false, Option.map_some, Option.getD_some, Bool.true_and, Array.all_eq_true']
          intro e he
          cases hb : Region.binds .any e with
          | false => rfl
          | true =>
            have hlt := hok.back i hi e he hb
            simp [ih e.on hlt (by omega)]
        rw [hr] at hm; cases hm
  refine ⟨?_, ?_⟩
  · rw [h.act]; exact putsOf_congr _ _ _ _ _ (fun j hj => all j (List.mem_range.1 hj))
  · obtain ⟨k, hk, hw, hj⟩ := h.world
    rw [hw]
    by_cases e : k = eff.length
    · rw [e]
    · exfalso
      have hkl : k < eff.length := by omega
      have h1 := hj k hkl
      have hm : eff.getD k 0 ∈ eff := by simp [List.getD_eq_getElem?_getD, hkl]
      rw [all _ (hok.effs _ hm)] at h1
      simp at h1
theorem RInv.start : RInv ops eff vals Wd a (Array.replicate ops.size false) a (Wd 0) := by
  have hf : ∀ i, (Array.replicate ops.size false).getD i false = false := fun i => by
    simp only [Array.getD_eq_getD_getElem?, Array.getElem?_replicate]; split <;> rfl
  refine ⟨?_, fun i hi hl => ?_, 0, Nat.zero_le _, rfl, fun j hj => ?_⟩
  · have : ∀ (L : List Nat) (b : Act), putsOf ops vals (fun i => (Array.replicate ops.size false).getD i false) b L = b := by
      intro L
      induction L with
      | nil => intro b; rfl
      | cons j L ih =>
        intro b
        show putsOf ops vals _ (if (Array.replicate ops.size false).getD j false = true then _ else b) L = b
        rw [if_neg (by rw [hf j]; simp)]; exact ih b
    rw [this]
  · rw [hf i] at hl; cases hl
  · rw [hf]; simp
theorem RInv.next {listed : Array Bool} {a' : Act} {w' : World} (hok : OkR ops eff a.tmps.size) (hs : listed.size = ops.size) (h : RInv ops eff vals Wd a listed a' w') {i : Nat} (hi : i < ops.size) (hu : listed.getD i false = false)
    (hl : ∀ e ∈ (opAt ops i).after, Region.binds .any e = true → listed.getD e.on false = true) (w2 : World)
    (hw : ∀ k, k ≤ eff.length → w' = Wd k → (∀ j, j < eff.length → listed.getD (eff.getD j 0) false = decide (j < k)) → ∃ k', k' ≤ eff.length ∧ w2 = Wd k' ∧ ∀ j, j < eff.length → (if eff.getD j 0 = i then true else listed.getD (eff.getD j 0) false) = decide (j < k')) :
    RInv ops eff vals Wd a (listed.setIfInBounds i true) (a'.put (opAt ops i).dst (vals i)) w2 := by
  refine ⟨h.put hok hi hs hu, fun j hj hlj e he hb => ?_, ?_⟩
  · rw [set_getD (by omega)] at hlj ⊢
    by_cases ee : e.on = i
    · simp [ee]
    · simp only [ee, if_false]
      by_cases ej : j = i
      · subst ej; exact hl e he hb
      · simp only [ej, if_false] at hlj; exact h.closed j hj hlj e he hb
  · obtain ⟨k, hk, hw', hj⟩ := h.world
    obtain ⟨k', h1, h2, h3⟩ := hw k hk hw' hj
    exact ⟨k', h1, h2, fun j hjl => by rw [set_getD (by omega)]; exact h3 j hjl⟩
/-- THE REGION WHOSE ORDER MAKES NO DIFFERENCE, inside a fence that shuts nothing out. -/
theorem regionIn_eq {id : Nat} {w : World} (hF : ∀ f, F.fn f) (hm : P.follows .mixedOrders = true) (eff : List Nat) (vals : Nat → Value) (Wd : Nat → World) (hW0 : Wd 0 = w.drew) (hok : okR ops eff a.tmps.size = true)
    (hnd : eff.Nodup)
    (hfl : ∀ i, i < ops.size → i ∉ eff → if wantedV ops vals i = true then ∀ k, k ≤ eff.length → (execOp (regEval ops vals a i) (opAt ops i)).run P (Wd k) = .ok (.value (vals i)) (Wd k) else vals i = undef)
    (hef : ∀ k, k < eff.length → wantedV ops vals (eff.getD k 0) = true ∧ ((execOp (regEval ops vals a (eff.getD k 0)) (opAt ops (eff.getD k 0))).run P (Wd k) = .ok (.value (vals (eff.getD k 0))) (Wd (k + 1)) ∨ (execOp (regEval ops vals a (eff.getD k 0)) (opAt ops (eff.getD k 0))).run P (Wd k) = .ok .skip (Wd (k + 1)) ∧ vals (eff.getD k 0) = undef))
    (hq : Q .normal (putsOf ops vals (fun _ => true) a (List.range ops.size)) (Wd eff.length)) : (Code.region id ops true).wpIn F n P Q a w := by
  have ok := okR_ok hok
  refine wpIn_region_any hm ?_
  show wpAnyIn F n P .any ops Q ops.size (Array.replicate ops.size false) a w.drew
  rw [← hW0]
  refine wpAnyIn_inv (Inv := RInv ops eff vals Wd a) ?_ ?_ ops.size _ a _ (by simp) ?_ RInv.start
  · intro listed a' w' i hs hinv him
    obtain ⟨hu0, o, ho, hl⟩ := ready_mem him
    have hi : i < ops.size := (Array.getElem?_eq_some_iff.1 ho).1
    have hoi : opAt ops i = o := by simp [opAt, Array.getD_eq_getD_getElem?, ho]
    have hu : listed.getD i false = false := by
      simp only [Array.getD_eq_getD_getElem?] at hu0 ⊢
      rw [Array.getElem?_eq_getElem (by omega)] at hu0 ⊢
      simpa using hu0
    rw [← hoi] at hl
    have hwd := hinv.wanted ok hi hl
    have hex : execOp a'.eval (opAt ops i) = execOp (regEval ops vals a i) (opAt ops i) := execOp_congr _ (ok.sel i hi) (hinv.eval ok hi hu hl)
    have hsem : ∀ ρ, (opAt ops i).semAt F.round ρ = execOp ρ (opAt ops i) := fun ρ => Oper.semAt_eq _ _ _ (ok.dfr i hi)
    unfold wpOpIn
    simp only [ho]
    rw [← hoi, hwd]
    by_cases hie : i ∈ eff
    · obtain ⟨k, hk, rfl⟩ := List.getElem_of_mem hie
      have hgk : eff.getD k 0 = eff[k] := by simp [List.getD_eq_getElem?_getD, hk]
      obtain ⟨h1, h2⟩ := hef k hk
      rw [hgk] at h1 h2
      obtain ⟨k0, hk0, hw0, hj0⟩ := hinv.world
      have hkk : k0 = k := by
        have a1 := hj0 k hk
        rw [hgk, hu] at a1
        have a1 : ¬ k < k0 := by simpa using a1.symm
        by_cases hz : k = 0
        · omega
        · have hc := ok.chain (k - 1) (by omega)
          rw [show k - 1 + 1 = k from by omega, hgk] at hc
          have a2 := depsOn_listed hc hl
          rw [hj0 (k - 1) (by omega)] at a2
          have a2 : k - 1 < k0 := by simpa using a2
          omega
      subst hkk
      rw [if_pos h1]
      refine ⟨fun f _ => hF f, ?_⟩
      rw [hsem, hex, hw0]
      have fin := hinv.next ok hs hi hu hl (Wd (k0 + 1)) (fun k1 hk1 hw1 hj1 => by
        have : k1 = k0 := by
          by_cases h : k1 < k0
          · have e1 := hj1 k1 (by omega); have e2 := hj0 k1 (by omega)
            rw [e2] at e1; simp [h] at e1
          · by_cases h' : k0 < k1
            · have e1 := hj1 k0 (by omega); have e2 := hj0 k0 (by omega)
              rw [e2] at e1; simp [h'] at e1
            · omega
        subst this
        refine ⟨k1 + 1, by omega, rfl, fun j hj => ?_⟩
        by_cases e : eff.getD j 0 = eff[k1]
        · rw [if_pos e]
          have : j = k1 := by
            have : eff[j] = eff[k1] := by rw [← e]; simp [List.getD_eq_getElem?_getD, hj]
            have hp := List.pairwise_iff_getElem.1 hnd
            rcases Nat.lt_trichotomy j k1 with hlt | heq | hgt
            · exact absurd this (hp j k1 hj hk hlt)
            · exact heq
            · exact absurd this.symm (hp k1 j hk hj hgt)
          subst this; simp
        · rw [if_neg e, hj1 j hj]
          have : j ≠ k1 := fun h => e (by subst h; exact hgk)
          simp; omega)
      rcases h2 with h2 | ⟨h2, h3⟩
      · rw [h2]; exact fin
      · rw [h2]; rw [h3] at fin; exact fin
    · have h1 := hfl i hi hie
      obtain ⟨k, hk, hw0, hj0⟩ := hinv.world
      have fin := hinv.next ok hs hi hu hl w' (fun k1 hk1 hw1 hj1 => ⟨k1, hk1, hw1, fun j hj => by
        have hm : eff.getD j 0 ∈ eff := by simp [List.getD_eq_getElem?_getD, hj]
        rw [if_neg (fun e : eff.getD j 0 = i => hie (by rw [← e]; exact hm))]; exact hj1 j hj⟩)
      by_cases hwv : wantedV ops vals i = true
      · rw [if_pos hwv] at h1 ⊢
        refine ⟨fun f _ => hF f, ?_⟩
        rw [hsem, hex]
        have h2 := h1 k hk
        rw [← hw0] at h2
        rw [h2]; exact fin
      · rw [if_neg hwv] at h1 ⊢
        refine ⟨fun f _ => hF f, ?_⟩
        rw [h1] at fin; exact fin
  · intro listed a' w' hs hinv hr
    obtain ⟨h1, h2⟩ := hinv.done ok hs hr
    rw [h1, h2]; exact hq
  · unfold falses; have := List.countP_le_length (p := fun x => !x) (l := List.replicate ops.size false); simpa using this
/-- The same outside every fence. -/
theorem region_eq {id : Nat} {w : World} (hm : P.follows .mixedOrders = true) (eff : List Nat) (vals : Nat → Value) (Wd : Nat → World) (hW0 : Wd 0 = w.drew) (hok : okR ops eff a.tmps.size = true)
    (hnd : eff.Nodup)
    (hfl : ∀ i, i < ops.size → i ∉ eff → if wantedV ops vals i = true then ∀ k, k ≤ eff.length → (execOp (regEval ops vals a i) (opAt ops i)).run P (Wd k) = .ok (.value (vals i)) (Wd k) else vals i = undef)
    (hef : ∀ k, k < eff.length → wantedV ops vals (eff.getD k 0) = true ∧ ((execOp (regEval ops vals a (eff.getD k 0)) (opAt ops (eff.getD k 0))).run P (Wd k) = .ok (.value (vals (eff.getD k 0))) (Wd (k + 1)) ∨ (execOp (regEval ops vals a (eff.getD k 0)) (opAt ops (eff.getD k 0))).run P (Wd k) = .ok .skip (Wd (k + 1)) ∧ vals (eff.getD k 0) = undef))
    (hq : Q .normal (putsOf ops vals (fun _ => true) a (List.range ops.size)) (Wd eff.length)) : (Code.region id ops true).wp P Q a w := by
  have ok := okR_ok hok
  refine wp_region_any hm ?_
  show wpAny P .any ops Q ops.size (Array.replicate ops.size false) a w.drew
  rw [← hW0]
  refine wpAny_inv (Inv := RInv ops eff vals Wd a) ?_ ?_ ops.size _ a _ (by simp) ?_ RInv.start
  · intro listed a' w' i hs hinv him
    obtain ⟨hu0, o, ho, hl⟩ := ready_mem him
    have hi : i < ops.size := (Array.getElem?_eq_some_iff.1 ho).1
    have hoi : opAt ops i = o := by simp [opAt, Array.getD_eq_getD_getElem?, ho]
    have hu : listed.getD i false = false := by
      simp only [Array.getD_eq_getD_getElem?] at hu0 ⊢
      rw [Array.getElem?_eq_getElem (by omega)] at hu0 ⊢
      simpa using hu0
    rw [← hoi] at hl
    have hwd := hinv.wanted ok hi hl
    have hex : execOp a'.eval (opAt ops i) = execOp (regEval ops vals a i) (opAt ops i) := execOp_congr _ (ok.sel i hi) (hinv.eval ok hi hu hl)
    unfold wpOp
    simp only [ho]
    rw [← hoi, hwd]
    by_cases hie : i ∈ eff
    · obtain ⟨k, hk, rfl⟩ := List.getElem_of_mem hie
      have hgk : eff.getD k 0 = eff[k] := by simp [List.getD_eq_getElem?_getD, hk]
      obtain ⟨h1, h2⟩ := hef k hk
      rw [hgk] at h1 h2
      obtain ⟨k0, hk0, hw0, hj0⟩ := hinv.world
      have hkk : k0 = k := by
        have a1 := hj0 k hk
        rw [hgk, hu] at a1
        have a1 : ¬ k < k0 := by simpa using a1.symm
        by_cases hz : k = 0
        · omega
        · have hc := ok.chain (k - 1) (by omega)
          rw [show k - 1 + 1 = k from by omega, hgk] at hc
          have a2 := depsOn_listed hc hl
          rw [hj0 (k - 1) (by omega)] at a2
          have a2 : k - 1 < k0 := by simpa using a2
          omega
      subst hkk
      rw [if_pos h1]
      refine .inl ?_
      unfold Oper.wp
      rw [hex, hw0]
      have fin := hinv.next ok hs hi hu hl (Wd (k0 + 1)) (fun k1 hk1 hw1 hj1 => by
        have : k1 = k0 := by
          by_cases h : k1 < k0
          · have e1 := hj1 k1 (by omega); have e2 := hj0 k1 (by omega)
            rw [e2] at e1; simp [h] at e1
          · by_cases h' : k0 < k1
            · have e1 := hj1 k0 (by omega); have e2 := hj0 k0 (by omega)
              rw [e2] at e1; simp [h'] at e1
            · omega
        subst this
        refine ⟨k1 + 1, by omega, rfl, fun j hj => ?_⟩
        by_cases e : eff.getD j 0 = eff[k1]
        · rw [if_pos e]
          have : j = k1 := by
            have : eff[j] = eff[k1] := by rw [← e]; simp [List.getD_eq_getElem?_getD, hj]
            have hp := List.pairwise_iff_getElem.1 hnd
            rcases Nat.lt_trichotomy j k1 with hlt | heq | hgt
            · exact absurd this (hp j k1 hj hk hlt)
            · exact heq
            · exact absurd this.symm (hp k1 j hk hj hgt)
          subst this; simp
        · rw [if_neg e, hj1 j hj]
          have : j ≠ k1 := fun h => e (by subst h; exact hgk)
          simp; omega)
      rcases h2 with h2 | ⟨h2, h3⟩
      · rw [h2]; exact fin
      · rw [h2]; rw [h3] at fin; exact fin
    · have h1 := hfl i hi hie
      obtain ⟨k, hk, hw0, hj0⟩ := hinv.world
      have fin := hinv.next ok hs hi hu hl w' (fun k1 hk1 hw1 hj1 => ⟨k1, hk1, hw1, fun j hj => by
        have hm : eff.getD j 0 ∈ eff := by simp [List.getD_eq_getElem?_getD, hj]
        rw [if_neg (fun e : eff.getD j 0 = i => hie (by rw [← e]; exact hm))]; exact hj1 j hj⟩)
      by_cases hwv : wantedV ops vals i = true
      · rw [if_pos hwv] at h1 ⊢
        refine .inl ?_
        unfold Oper.wp
        rw [hex]
        have h2 := h1 k hk
        rw [← hw0] at h2
        rw [h2]; exact fin
      · rw [if_neg hwv] at h1 ⊢
        rw [h1] at fin; exact fin
  · intro listed a' w' hs hinv hr
    obtain ⟨h1, h2⟩ := hinv.done ok hs hr
    rw [h1, h2]; exact hq
  · unfold falses; have := List.countP_le_length (p := fun x => !x) (l := List.replicate ops.size false); simpa using this
end
end Go.Proofs.YtdaijofmglpmdaaDoor
