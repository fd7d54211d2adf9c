/- Opening arguments of any shape: integers, strings, truth values, structs and slices of such, however deep. -/
import Derived.Test.YtafipkbffboebaaDoorOpenS
import Derived.Test.YtafipkbffboebaaDoorLawA
namespace Go.Proofs.YtafipkbffboebaaDoor
open Go Go.RowKit Go.ChangeShapes Go.WideShapes Go.Deep Go.Joins
set_option linter.unusedVariables false
set_option linter.unusedSimpArgs false
inductive Sh where
  | int (k : IntKind)
  | str
  | bool
  | slice (s : Sh)
  | cat (a b : Sh)
def Sh.size : Sh → Nat
  | .cat a b => a.size + b.size
  | _ => 1
def IsD : Sh → List D → Prop
  | .int k, ds => ∃ n, ds = [.val (.int k n)] ∧ (Lit.int k n).wf = true
  | .str, ds => ∃ l : List UInt8, ds = [.val (.string ⟨l.toArray⟩)] ∧ l.length ≤ maxLen
  | .bool, ds => ∃ b, ds = [.val (.bool b)]
  | .slice s, ds => ∃ xs, ds = [.lst s.size xs] ∧ xs.length ≤ maxLen ∧ ∀ x ∈ xs, IsD s x
  | .cat a b, ds => ∃ d1 d2, ds = d1 ++ d2 ∧ IsD a d1 ∧ IsD b d2
def chkFs (P : Program) (rec : TypeId → Sh → Bool) : List Field → Nat → Sh → Bool
  | [], _, _ => false
  | [f], o, s => f.offset == o && P.cellsOf f.type == s.size && rec f.type s
  | f :: fs, o, .cat a b => f.offset == o && P.cellsOf f.type == a.size && rec f.type a && chkFs P rec fs (o + a.size) b
  | _, _, _ => false
def chk (P : Program) : Nat → TypeId → Sh → Bool
  | 0, _, _ => false
  | n + 1, t, sh => match P.underlying t with
    | some (.int k) => match sh with
      | .int k' => decide (k = k')
      | _ => false
    | some .string => match sh with
      | .str => true
      | _ => false
    | some .bool => match sh with
      | .bool => true
      | _ => false
    | some (.slice e) => match sh with
      | .slice s => P.cellsOf e == s.size && decide (0 < s.size) && chk P n e s
      | _ => false
    | some (.struct fs) => P.cellsOf t == sh.size && chkFs P (chk P n) fs.toList 0 sh
    | _ => false
section
variable {H : Type} {enc : TypeId × Value → H} {P : Program} {w : World} {spare : Nat → Bool} {held : Bool}
def Reads (enc : TypeId × Value → H) (P : Program) (w : World) (spare : Nat → Bool) (held : Bool) (t : TypeId) (sh : Sh) : Prop :=
  ∀ fuel cs x, DataW.trod enc P w 0 spare held fuel t cs = some x → ∃ ds, IsD sh ds ∧ RepL (allK w) ds cs ∧ (∀ u ∈ cs, u.oneCell' = true) ∧ ds.length = sh.size
theorem reads_fields {rec : TypeId → Sh → Bool} (hrec : ∀ t sh, rec t sh = true → Reads enc P w spare held t sh) {fuel : Nat} {cs : List Value} :
    ∀ (fs : List Field) (o : Nat) (sh : Sh), chkFs P rec fs o sh = true → o + sh.size ≤ cs.length → (∀ f ∈ fs, ∃ y, DataW.trod enc P w 0 spare held fuel f.type ((cs.drop f.offset).take (P.cellsOf f.type)) = some y) →
      ∃ ds, IsD sh ds ∧ RepL (allK w) ds ((cs.drop o).take sh.size) ∧ (∀ u ∈ (cs.drop o).take sh.size, u.oneCell' = true) ∧ ds.length = sh.size
  | [], o, sh, h, _, _ => by simp [chkFs] at h
  | [f], o, sh, h, hl, hf => by
    simp only [chkFs, Bool.and_eq_true, beq_iff_eq] at h
    obtain ⟨⟨h1, h2⟩, h3⟩ := h
    obtain ⟨y, hy⟩ := hf f (by simp)
    rw [h1, h2] at hy
    exact hrec _ _ h3 _ _ _ hy
  | f :: g :: fs, o, sh, h, hl, hf => by
    cases sh with
    | cat a b =>
      simp only [chkFs, Bool.and_eq_true, beq_iff_eq] at h
      obtain ⟨⟨⟨h1, h2⟩, h3⟩, h4⟩ := h
      simp only [Sh.size] at hl
      obtain ⟨y, hy⟩ := hf f (by simp)
      rw [h1, h2] at hy
      obtain ⟨d1, i1, r1, o1, l1⟩ := hrec _ _ h3 _ _ _ hy
      obtain ⟨d2, i2, r2, o2, l2⟩ := reads_fields hrec (g :: fs) (o + a.size) b h4 (by omega) (fun f hfm => hf f (by simp [hfm]))
      have hsplit : (cs.drop o).take (a.size + b.size) = (cs.drop o).take a.size ++ (cs.drop (o + a.size)).take b.size := by
        rw [List.take_add, List.drop_drop]
      refine ⟨d1 ++ d2, ⟨d1, d2, rfl, i1, i2⟩, ?_, ?_, by simp [Sh.size, l1, l2]⟩
      · simp only [Sh.size]; rw [hsplit]; exact r1.append r2
      · simp only [Sh.size]; rw [hsplit]
        intro u hu
        rcases List.mem_append.1 hu with h | h
        · exact o1 u h
        · exact o2 u h
    | _ => simp [chkFs] at h
theorem reads_sh : ∀ (n : Nat) (t : TypeId) (sh : Sh), chk P n t sh = true → Reads enc P w spare held t sh
  | 0, t, sh, h => by simp [chk] at h
  | n + 1, t, sh, h => by
    intro fuel cs x hx
    simp only [chk] at h
    split at h
    · rename_i k hu
      cases sh with
      | int k' =>
        simp only [decide_eq_true_eq] at h
        subst h
        obtain ⟨m, rfl, _, hw⟩ := DataW.trod_int hu hx
        exact ⟨_, ⟨m, rfl, hw⟩, .cons (.val _) .nil, by simp [Value.oneCell'], rfl⟩
      | _ => simp at h
    · rename_i hu
      cases sh with
      | str =>
        obtain ⟨s, rfl, _, hw⟩ := DataW.trod_string hu hx
        refine ⟨_, ⟨s.data.toList, rfl, ?_⟩, .cons (.val _) .nil, by simp [Value.oneCell'], rfl⟩
        have : s.data.toList.length = s.size := by cases s; simp [ByteArray.size]
        omega
      | _ => simp at h
    · rename_i hu
      cases sh with
      | bool =>
        obtain ⟨b, rfl, _⟩ := DataW.trod_bool hu hx
        exact ⟨_, ⟨b, rfl⟩, .cons (.val _) .nil, by simp [Value.oneCell'], rfl⟩
      | _ => simp at h
    · rename_i e hu
      cases sh with
      | slice s =>
        simp only [Bool.and_eq_true, beq_iff_eq, decide_eq_true_eq] at h
        obtain ⟨⟨hsz, hpos⟩, hch⟩ := h
        have ih := reads_sh n e s hch
        have key : ∃ xs : List (List D), SliceAt w.heap.size w s.size (fun vs ds => IsD s ds ∧ RepL (allK w) ds vs ∧ ∀ u ∈ vs, u.oneCell' = true) (cs.head?.getD .nilIface) xs ∧ xs.length ≤ maxLen ∧ (∀ x ∈ xs, IsD s x) ∧ ∃ a l c, cs = [.slice a l c] := by
          rcases open_slice hu hx with ⟨rfl, _⟩ | ⟨a, len, cap, m, n', D', Pl, rfl, hb, hl, hm, hmm, hx', hi⟩
          · exact ⟨[], SliceAt.nil _ _ _ _ _ _, Nat.zero_le _, by simp, none, 0, 0, rfl⟩
          · have hml : len ≤ m := by rw [hmm]; split <;> omega
            have hc : ∀ i, i < len → ∃ xc : List D × List Value, IsD s xc.1 ∧ RepL (allK w) xc.1 xc.2 ∧ (∀ u ∈ xc.2, u.oneCell' = true) ∧ xc.2.length = s.size ∧ ∀ j, j < s.size → w.cell? (a.add (i * s.size + j)) = xc.2[j]? := fun i hil => by
              obtain ⟨cs', hc, ht'⟩ := hi i (by omega)
              rw [hsz] at hc
              obtain ⟨_, hcl, hat⟩ := World.cells?_some hc
              obtain ⟨ds, q1, q2, q3, q4⟩ := ih _ _ _ ht'
              refine ⟨(ds, cs'), q1, q2, q3, hcl, fun j hj => ?_⟩
              rw [← Go.Deep.add_add]; exact hat j hj
            obtain ⟨xs, hxl, hxs⟩ := exists_list len hc
            refine ⟨xs.map (·.1), ?_, by simp; omega, ?_, some a, len, cap, rfl⟩
            · refine ⟨some a, cap, by simp [hxl], by simp; omega, fun hne => ?_⟩
              have h0 : 0 < xs.length := by
                rcases xs with _ | ⟨y, ys⟩
                · exact absurd rfl hne
                · simp
              obtain ⟨_, _, _, hlen0, hfirst⟩ := hxs 0 h0
              have hfirst := hfirst 0 hpos
              rw [List.getElem?_eq_getElem (by omega)] at hfirst
              obtain ⟨b, off, sp⟩ := a
              have hsp : sp = none := by simpa [Addr.add] using World.cell?_spot hfirst
              subst hsp
              refine ⟨b, off, rfl, by have := World.block_lt_of_cell? w _ hfirst; simpa [Addr.add] using this, fun i hil => ?_⟩
              have hil' : i < xs.length := by simpa using hil
              obtain ⟨p1, p2, p3, p4, p5⟩ := hxs i hil'
              refine ⟨xs[i].2, p4, by simpa using ⟨p1, p2, p3⟩, fun j hj => ?_⟩
              have := p5 j hj
              rw [← this, add_form, Nat.add_assoc]
            · intro x hx
              obtain ⟨y, hy, rfl⟩ := List.mem_map.1 hx
              obtain ⟨i, hi', rfl⟩ := List.getElem_of_mem hy
              exact (hxs i hi').1
        obtain ⟨xs, hS, hlx, hall, a, l, c, rfl⟩ := key
        have hr := hS.rep (fun x => x) (fun vs ds _ hq => ⟨hq.2.1, hq.2.2⟩)
        simp only [List.map_id'] at hr
        exact ⟨_, ⟨xs, rfl, hlx, hall⟩, .cons hr .nil, by simp [Value.oneCell'], rfl⟩
      | _ => simp at h
    · rename_i fs hu
      simp only [Bool.and_eq_true, beq_iff_eq] at h
      obtain ⟨ys, n', _, _, hcl, hyl, hf⟩ := DataW.trod_struct hu hx
      have := reads_fields (fuel := n') (cs := cs) (fun t sh => reads_sh n t sh) fs.toList 0 sh h.2 (by omega) (fun f hfm => by
        obtain ⟨i, hi, rfl⟩ := List.getElem_of_mem hfm
        have hi' : i < fs.size := by simpa using hi
        have h1 := hf i fs[i] (Array.getElem?_eq_getElem hi')
        exact ⟨ys[i]'(by omega), by simpa [List.getElem?_eq_getElem (show i < ys.length by omega)] using h1⟩)
      rw [List.drop_zero, List.take_of_length_le (by omega)] at this
      exact this
    · simp at h
theorem open_struct {r : Reach} {b0 : Nat} {t : TypeId} {fs : Array Field} {sh : Sh} {v : Value} {d : DataW H} {p : List MemPlace} (hu : P.underlying t = some (.struct fs)) (hc : chk P 12 t sh = true) (hv : Value.okWide P w r b0 t v) (h : DataW.Trod enc P w 0 spare held t v d p) :
    ∃ ds, IsD sh ds ∧ Rep (allK w) (.agg ds) v := by
  obtain ⟨cs, rfl, hsz⟩ := okWide_struct hu hv
  obtain ⟨fuel, hf⟩ := h
  obtain ⟨ds, q1, q2, q3, q4⟩ := reads_sh 12 t sh hc _ _ _ hf
  refine ⟨ds, q1, ?_⟩
  have := Rep.agg (K := allK w) q2.1 q2.2 q3
  simpa [Value.cells] using this
theorem open_lst {r : Reach} {b0 : Nat} {t e : TypeId} {s : Sh} {v : Value} {d : DataW H} {p : List MemPlace} (hu : P.underlying t = some (.slice e)) (hc : chk P 12 t (.slice s) = true) (hv : Value.okWide P w r b0 t v) (h : DataW.Trod enc P w 0 spare held t v d p) :
    ∃ xs, (∀ x ∈ xs, IsD s x) ∧ xs.length ≤ maxLen ∧ Rep (allK w) (.lst s.size xs) v := by
  obtain ⟨a, len, cap, rfl⟩ := okWide_slice hu hv
  obtain ⟨fuel, hf⟩ := h
  obtain ⟨ds, q1, q2, q3, q4⟩ := reads_sh 12 t (.slice s) hc _ _ _ hf
  obtain ⟨xs, rfl, hl, hx⟩ := q1
  exact ⟨xs, hx, hl, q2.2 0 _ _ rfl rfl⟩
end
/-- A list of shapes read off: each element is the cells of some x. -/
theorem all_dv {α : Type} {dv : α → List D} {Q : α → Prop} {s : Sh} (h : ∀ ds, IsD s ds → ∃ x, ds = dv x ∧ Q x) : ∀ (xs : List (List D)), (∀ x ∈ xs, IsD s x) → ∃ l : List α, xs = l.map dv ∧ ∀ x ∈ l, Q x
  | [], _ => ⟨[], rfl, by simp⟩
  | x :: xs, hx => by
    obtain ⟨y, rfl, hq⟩ := h x (hx x (by simp))
    obtain ⟨l, rfl, hl⟩ := all_dv h xs (fun x h' => hx x (by simp [h']))
    exact ⟨y :: l, rfl, fun z hz => by
      rcases List.mem_cons.1 hz with rfl | hz
      · exact hq
      · exact hl z hz⟩
end Go.Proofs.YtafipkbffboebaaDoor
