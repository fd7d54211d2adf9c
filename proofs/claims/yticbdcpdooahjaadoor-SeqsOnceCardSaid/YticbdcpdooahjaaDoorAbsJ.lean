/- The abstract machine: a region that draws its order does what it does in the order of the text, if what hangs together is ordered. -/
import Derived.Test.YticbdcpdooahjaaDoorAbsI
namespace Go.Proofs.YticbdcpdooahjaaDoor
open Go Go.RowKit
set_option linter.unusedVariables false
set_option linter.unusedSimpArgs false
/-- What stands at x when just the operations in f have been done: what the last of them has put there. -/
def lastW {α : Type} (N : Nat) (f : Nat → Bool) (key : Nat → Option Nat) (val : Nat → α) (base : Nat → α) (x : Nat) : α :=
  match (List.range N).reverse.find? (fun j => f j && key j == some x) with
  | some j => val j
  | none => base x
theorem find_congr {α : Type} {p q : α → Bool} : ∀ {l : List α}, (∀ x ∈ l, p x = q x) → l.find? p = l.find? q
  | [], _ => rfl
  | x :: l, h => by
    simp only [List.find?_cons]
    rw [h x (by simp), find_congr (fun y hy => h y (by simp [hy]))]
theorem lastW_congr {α : Type} {N : Nat} {f f' : Nat → Bool} {key : Nat → Option Nat} {val base : Nat → α} {x : Nat} (h : ∀ j, j < N → key j = some x → f j = f' j) : lastW N f key val base x = lastW N f' key val base x := by
  unfold lastW
  rw [find_congr (q := fun j => f' j && key j == some x)]
  intro j hj
  have hj : j < N := by simpa using hj
  by_cases hk : key j = some x
  · simp only [h j hj hk]
  · have : (key j == some x) = false := by simpa using hk
    simp only [this, Bool.and_false]
def updO {α : Type} (f : Nat → α) (k : Option Nat) (v : α) : Nat → α := match k with
  | some x => upd f x v
  | none => f
theorem find_last {N i : Nat} {p : Nat → Bool} (hi : i < N) (hp : p i = true) (hl : ∀ j, i < j → j < N → p j = false) : (List.range N).reverse.find? p = some i := by
  have hr : List.range N = List.range i ++ (i :: List.range' (i + 1) (N - i - 1)) := by
    rw [List.range_eq_range', List.range_eq_range']
    have : (i :: List.range' (i + 1) (N - i - 1)) = List.range' i (N - i) := by
      rw [show N - i = (N - i - 1) + 1 from by omega, List.range'_succ]; simp
    rw [this]
    have h := List.range'_append (s := 0) (m := i) (n := N - i) (step := 1)
    rw [show i + (N - i) = N from by omega] at h
    simpa using h.symm
  rw [hr, List.reverse_append, List.reverse_cons, List.append_assoc, List.find?_append]
  have : (List.range' (i + 1) (N - i - 1)).reverse.find? p = none := by
    rw [List.find?_eq_none]
    intro j hj
    simp only [List.mem_reverse, List.mem_range'_1] at hj
    rw [hl j (by omega) (by omega)]; simp
  rw [this]
  simp [hp]
def addF (f : Nat → Bool) (i : Nat) : Nat → Bool := fun j => if j = i then true else f j
theorem lastW_add {α : Type} {N i : Nat} {f : Nat → Bool} {key : Nat → Option Nat} {val base : Nat → α} (hi : i < N) (hl : ∀ j x, i < j → j < N → key i = some x → key j = some x → f j = false) :
    lastW N (addF f i) key val base = updO (lastW N f key val base) (key i) (val i) := by
  funext y
  cases hk : key i with
  | none =>
    exact lastW_congr (fun j hj hkj => by unfold addF; rw [if_neg (fun e => by subst e; rw [hk] at hkj; cases hkj)])
  | some x =>
    by_cases hxy : y = x
    · subst hxy
      rw [show updO (lastW N f key val base) (some y) (val i) y = val i from upd_same _ _ _]
      unfold lastW
      rw [find_last hi (by simp [addF, hk]) (fun j h1 h2 => by
        by_cases hkj : key j = some y
        · have := hl j y h1 h2 hk hkj
          simp [addF, show ¬ j = i from by omega, this]
        · simp [hkj])]
    · rw [show updO (lastW N f key val base) (some x) (val i) y = lastW N f key val base y from upd_ne _ _ hxy]
      exact lastW_congr (fun j hj hkj => by unfold addF; rw [if_neg (fun e => by subst e; rw [hk] at hkj; cases hkj; exact hxy rfl)])
/-! what an operation waits for -/
def edgesOf (o : Oper) : List Nat := (o.after.toList.filter (Region.binds .any ·)).map (·.on)
def ins (x : Nat) (l : List Nat) : List Nat := if l.contains x then l else x :: l
def befs : List Oper → List (List Nat) → List (List Nat)
  | [], acc => acc
  | o :: os, acc => befs os (acc ++ [(edgesOf o).foldl (fun l i => (acc.getD i []).foldl (fun l x => ins x l) (ins i l)) []])
theorem mem_ins {x y : Nat} {l : List Nat} (h : y ∈ ins x l) : y = x ∨ y ∈ l := by
  unfold ins at h
  split at h
  · exact .inr h
  · simpa using h
theorem mem_insAll {y : Nat} : ∀ {m l : List Nat}, y ∈ m.foldl (fun l x => ins x l) l → y ∈ m ∨ y ∈ l
  | [], l, h => .inr h
  | x :: m, l, h => by
    rcases mem_insAll (m := m) (l := ins x l) h with h | h
    · exact .inl (by simp [h])
    · rcases mem_ins h with rfl | h
      · exact .inl (by simp)
      · exact .inr h
theorem mem_step {acc : List (List Nat)} {y : Nat} : ∀ {es l : List Nat}, y ∈ es.foldl (fun l i => (acc.getD i []).foldl (fun l x => ins x l) (ins i l)) l → y ∈ l ∨ ∃ i ∈ es, y = i ∨ y ∈ acc.getD i []
  | [], l, h => .inl h
  | i :: es, l, h => by
    rcases mem_step (es := es) h with h | ⟨k, hk, h⟩
    · rcases mem_insAll h with h | h
      · exact .inr ⟨i, by simp, .inr h⟩
      · rcases mem_ins h with rfl | h
        · exact .inr ⟨y, by simp, .inl rfl⟩
        · exact .inl h
    · exact .inr ⟨k, by simp [hk], h⟩
/-- Whatever holds all that is waited for holds what befs says. -/
theorem befs_closed {L : Nat → Prop} {all : List Oper} (hL : ∀ j o, all[j]? = some o → L j → ∀ i ∈ edgesOf o, L i) : ∀ (os pre : List Oper) (acc : List (List Nat)), all = pre ++ os → acc.length = pre.length → (∀ j l, acc[j]? = some l → L j → ∀ i ∈ l, L i) →
    ∀ j l, (befs os acc)[j]? = some l → L j → ∀ i ∈ l, L i
  | [], pre, acc, hall, hlen, hacc, j, l, hj, hLj, i, hi => hacc j l hj hLj i hi
  | o :: os, pre, acc, hall, hlen, hacc, j, l, hj, hLj, i, hi => by
    refine befs_closed hL os (pre ++ [o]) _ (by simp [hall]) (by simp [hlen]) ?_ j l hj hLj i hi
    intro j l hj hLj i hi
    rcases Nat.lt_or_ge j acc.length with h | h
    · rw [List.getElem?_append_left h] at hj
      exact hacc j l hj hLj i hi
    · rw [List.getElem?_append_right h] at hj
      have hj0 : j - acc.length = 0 := by
        rcases Nat.eq_zero_or_pos (j - acc.length) with h' | h'
        · exact h'
        · rw [show j - acc.length = (j - acc.length - 1) + 1 from by omega] at hj; simp at hj
      rw [hj0] at hj
      simp only [List.getElem?_cons_zero, Option.some.injEq] at hj
      subst hj
      have hjo : all[j]? = some o := by
        rw [hall, List.getElem?_append_right (by omega), show j - pre.length = 0 from by omega]; rfl
      rcases mem_step hi with hi | ⟨k, hk, hi⟩
      · simp at hi
      · have hLk := hL j o hjo hLj k hk
        rcases hi with rfl | hi
        · exact hLk
        · cases hka : acc[k]? with
          | none => rw [List.getD_eq_getElem?_getD, hka] at hi; simp at hi
          | some m =>
            rw [List.getD_eq_getElem?_getD, hka] at hi
            exact hacc k m hka hLk i (by simpa using hi)
def readsOf (all : List Oper) (o : Oper) : List Nat :=
  (o.op.operands.toList.filterMap fun | .tmp t => some t | _ => none) ++ (match o.guard with
    | some (j, _) => match all[j]? with
      | some oj => oj.dst.toList
      | none => []
    | none => [])
def apartD (x : Option Nat) (l : List Nat) : Bool := match x with
  | some d => !l.contains d
  | none => true
/-- Do two operations, the first ahead of the second in the text, hang together? -/
def needs (all : List Oper) (oi oj : Oper) (fi fj : Foot) : Bool :=
  !(apartD oi.dst (readsOf all oj ++ oj.dst.toList) && apartD oj.dst (readsOf all oi) && apartD fi.wr fj.fp && apartD fj.wr fi.fp)
def okPairs (all : List Oper) (bs : List (List Nat)) (fs : List Foot) : Bool :=
  (List.range all.length).all fun j => (List.range j).all fun i =>
    match all[i]?, all[j]?, fs[i]?, fs[j]?, bs[j]? with
    | some oi, some oj, some fi, some fj, some b => !needs all oi oj fi fj || b.contains i
    | _, _, _, _, _ => false
def okTr (all : List Oper) (fs : List Foot) : Bool :=
  fs.length == all.length && okPairs all (befs all []) fs && ((List.range all.length).all fun j => match all[j]? with
    | some o => (edgesOf o).all (· < j)
    | none => false) && fs.all fun f => match f.wr with
      | some x => f.fp.contains x
      | none => true
theorem okTr_len {all : List Oper} {fs : List Foot} (h : okTr all fs = true) : fs.length = all.length := by
  simp only [okTr, Bool.and_eq_true, beq_iff_eq] at h; exact h.1.1.1
theorem okTr_back {all : List Oper} {fs : List Foot} (h : okTr all fs = true) {j : Nat} {o : Oper} (hj : all[j]? = some o) {i : Nat} (hi : i ∈ edgesOf o) : i < j := by
  simp only [okTr, Bool.and_eq_true] at h
  have := List.all_eq_true.1 h.1.2 j (by simpa using (List.getElem?_eq_some_iff.1 hj).1)
  rw [hj] at this
  have := List.all_eq_true.1 this i hi
  simpa using this
theorem okTr_wr {all : List Oper} {fs : List Foot} (h : okTr all fs = true) {j x : Nat} {f : Foot} (hj : fs[j]? = some f) (hx : f.wr = some x) : x ∈ f.fp := by
  simp only [okTr, Bool.and_eq_true] at h
  have := List.all_eq_true.1 h.2 f (List.mem_of_getElem? hj)
  rw [hx] at this
  simpa using this
theorem okTr_pair {all : List Oper} {fs : List Foot} (h : okTr all fs = true) {i j : Nat} {oi oj : Oper} {fi fj : Foot} (hij : i < j) (hi : all[i]? = some oi) (hj : all[j]? = some oj) (hfi : fs[i]? = some fi) (hfj : fs[j]? = some fj)
    (hn : needs all oi oj fi fj = true) {L : Nat → Prop} (hL : ∀ j o, all[j]? = some o → L j → ∀ i ∈ edgesOf o, L i) (hLj : L j) : L i := by
  have hcl := befs_closed hL all [] [] rfl rfl (fun j l hj => by simp at hj) j
  simp only [okTr, Bool.and_eq_true] at h
  have h2 := List.all_eq_true.1 h.1.1.2 j (by simpa using (List.getElem?_eq_some_iff.1 hj).1)
  have h3 := List.all_eq_true.1 h2 i (by simpa using hij)
  rw [hi, hj, hfi, hfj] at h3
  cases hb : (befs all [])[j]? with
  | none => rw [hb] at h3; cases h3
  | some b =>
    rw [hb] at h3
    simp only [hn, Bool.not_true, Bool.false_or, List.contains_iff_mem] at h3
    exact hcl b hb hLj i h3
theorem needs_dst {all : List Oper} {oi oj : Oper} {fi fj : Foot} {d : Nat} (h : oi.dst = some d) (hr : d ∈ readsOf all oj ∨ oj.dst = some d) : needs all oi oj fi fj = true := by
  have : apartD oi.dst (readsOf all oj ++ oj.dst.toList) = false := by
    rw [h]; simp only [apartD, Bool.not_eq_false', List.contains_iff_mem]
    rcases hr with hr | hr
    · simp [hr]
    · simp [hr]
  simp [needs, this]
theorem needs_read {all : List Oper} {oi oj : Oper} {fi fj : Foot} {d : Nat} (h : oj.dst = some d) (hr : d ∈ readsOf all oi) : needs all oi oj fi fj = true := by
  have : apartD oj.dst (readsOf all oi) = false := by
    rw [h]; simp only [apartD, Bool.not_eq_false', List.contains_iff_mem]; exact hr
  simp [needs, this]
theorem needs_wr {all : List Oper} {oi oj : Oper} {fi fj : Foot} {d : Nat} (h : fi.wr = some d) (hr : d ∈ fj.fp) : needs all oi oj fi fj = true := by
  have : apartD fi.wr fj.fp = false := by
    rw [h]; simp only [apartD, Bool.not_eq_false', List.contains_iff_mem]; exact hr
  simp [needs, this]
theorem needs_wr' {all : List Oper} {oi oj : Oper} {fi fj : Foot} {d : Nat} (h : fj.wr = some d) (hr : d ∈ fi.fp) : needs all oi oj fi fj = true := by
  have : apartD fj.wr fi.fp = false := by
    rw [h]; simp only [apartD, Bool.not_eq_false', List.contains_iff_mem]; exact hr
  simp [needs, this]
end Go.Proofs.YticbdcpdooahjaaDoor
