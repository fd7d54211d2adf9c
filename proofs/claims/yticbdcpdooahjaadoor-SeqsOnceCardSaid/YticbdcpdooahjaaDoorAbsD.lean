/- The abstract machine: lists (elements, slices, lengths), literals, interfaces, closures. -/
import Derived.Test.YticbdcpdooahjaaDoorAbsC
namespace Go.Proofs.YticbdcpdooahjaaDoor
open Go Go.RowKit
set_option linter.unusedVariables false
set_option linter.unusedSimpArgs false
theorem flat_len {α : Type} {sz : Nat} : ∀ {xs : List (List α)}, (∀ x ∈ xs, x.length = sz) → xs.flatten.length = xs.length * sz
  | [], _ => by simp
  | x :: xs, h => by
    rw [List.flatten_cons, List.length_append, flat_len (fun y hy => h y (by simp [hy])), h x (by simp), List.length_cons, Nat.succ_mul]; omega
theorem flat_at {α : Type} {sz : Nat} : ∀ {xs : List (List α)}, (∀ x ∈ xs, x.length = sz) → ∀ (i : Nat) cs, xs[i]? = some cs → ∀ j, j < sz → xs.flatten[i * sz + j]? = cs[j]?
  | [], _, i, cs, h, _, _ => by simp at h
  | x :: xs, hs, 0, cs, h, j, hj => by
    simp at h; subst h
    have h := hs x (by simp)
    rw [List.flatten_cons, List.getElem?_append_left (by omega)]; simp
  | x :: xs, hs, i + 1, cs, h, j, hj => by
    have hx := hs x (by simp)
    rw [List.flatten_cons, List.getElem?_append_right (by rw [hx, Nat.succ_mul]; omega), hx, show (i + 1) * sz + j - sz = i * sz + j from by rw [Nat.succ_mul]; omega]
    exact flat_at (fun y hy => hs y (by simp [hy])) i cs (by simpa using h) j hj
theorem flat_drop {α : Type} {sz : Nat} : ∀ {xs : List (List α)}, (∀ x ∈ xs, x.length = sz) → ∀ l, (xs.drop l).flatten = xs.flatten.drop (l * sz)
  | [], _, l => by simp
  | x :: xs, hs, 0 => by simp
  | x :: xs, hs, l + 1 => by
    have hx := hs x (by simp)
    rw [List.drop_succ_cons, flat_drop (fun y hy => hs y (by simp [hy])) l, List.flatten_cons, Nat.succ_mul, show l * sz + sz = x.length + l * sz from by omega, List.drop_append]
    simp
theorem flat_take {α : Type} {sz : Nat} : ∀ {xs : List (List α)}, (∀ x ∈ xs, x.length = sz) → ∀ l, (xs.take l).flatten = xs.flatten.take (l * sz)
  | [], _, l => by simp
  | x :: xs, hs, 0 => by simp
  | x :: xs, hs, l + 1 => by
    have hx := hs x (by simp)
    rw [List.take_succ_cons, List.flatten_cons, flat_take (fun y hy => hs y (by simp [hy])) l, List.flatten_cons, Nat.succ_mul, show l * sz + sz = x.length + l * sz from by omega, List.take_append]
    simp [List.take_of_length_le]
/-- What stands for a list. -/
theorem Rep.inv {K : Know} {sz : Nat} {xs : List (List D)} {v : Value} (h : Rep K (.lst sz xs) v) : ∃ a c vs, v = .slice a xs.length c ∧ (∀ x ∈ xs, x.length = sz) ∧ xs.length ≤ c ∧ RepL K xs.flatten vs ∧ (∀ u ∈ vs, u.oneCell' = true) ∧
    (xs ≠ [] → ∃ b off, a = some ⟨b, off, none⟩ ∧ ∀ (j : Nat) v, vs[j]? = some v → K b (off + j) = some v) := by
  cases h with
  | lst hs hc hl hv h1 hk => exact ⟨_, _, _, rfl, hs, hc, ⟨hl, hv⟩, h1, hk⟩
def CV.lstOf (sz : Nat) : CV → Option (List (List D))
  | .d (.lst s xs) => if s = sz then some xs else none
  | .app _ s xs => if s = sz then some xs else none
  | .full s xs => if s = sz then some xs else none
  | .d (.val (.slice _ 0 _)) => some []
  | _ => none
theorem rep_nil (K : Know) (sz : Nat) : Rep K (.lst sz []) (.slice none 0 0) := Rep.lst (vs := []) (by simp) (by simp) rfl (by simp) (by simp) (by simp)
theorem CV.lstOf_rep {g : G} {H : Hp} {x : CV} {v : Value} {sz : Nat} {xs : List (List D)} (h : RepC g H x v) (hx : x.lstOf sz = some xs) : Rep g.K (.lst sz xs) v := by
  unfold CV.lstOf at hx
  split at hx
  · split at hx
    · rename_i e; subst e; cases hx; exact h
    · cases hx
  · split at hx
    · rename_i e; subst e; cases hx; exact h.1
    · cases hx
  · split at hx
    · rename_i e; subst e; cases hx; exact h.1
    · cases hx
  · cases hx
    have h : Rep g.K (.val (.slice _ 0 _)) v := h
    cases h
    exact Rep.lst (vs := []) (by simp) (by simp) rfl (by simp) (by simp) (by simp)
  · cases hx
theorem elemD_spec {u : TypeDesc} {e : Nat} (h : elemD u = some e) : u = .slice e := by cases u <;> simp [elemD] at h; subst h; rfl
def SV.nat (x : SV) : Option Nat :=
  match x.exact with
  | some (.int _ n) => if 0 ≤ n then some n.toNat else none
  | _ => none
theorem SV.nat_rep {g : G} {H : Hp} {x : SV} {v : Value} {n : Nat} (h : RepS g H x v) (hx : x.nat = some n) : ∃ k, v = .int k n := by
  unfold SV.nat at hx
  split at hx
  · rename_i k m hm
    split at hx
    · rename_i h0
      cases hx
      exact ⟨k, by rw [SV.exact_rep h hm, Int.toNat_of_nonneg h0]⟩
    · cases hx
  · cases hx
/-! an element's address -/
def esize (P : Program) (t : TypeId) : Option (Nat × Nat × Nat × List Value) :=
  match TI P t with
  | some ti => match ti.elem with
    | some e => match TI P e with
      | some ei => some (e, ei.size, ei.bytes, ei.zero)
      | none => none
    | none => none
  | none => none
theorem esize_spec {P : Program} {t e s bb : Nat} {zs : List Value} (h : esize P t = some (e, s, bb, zs)) : P.underlying t = some (.slice e) ∧ ∃ j z u, P.info? e = some j ∧ j.zero = some z ∧ j.size = s ∧ j.bytes = bb ∧ zs = z.cells.toList ∧ P.underlying e = some u := by
  unfold esize at h
  split at h
  · rename_i ti hti
    split at h
    · rename_i e' he
      split at h
      · rename_i ei hei
        cases h
        obtain ⟨u, j, z, hu, hj, hz, rfl⟩ := TI_spec hti
        obtain ⟨u', j', z', hu', hj', hz', rfl⟩ := TI_spec hei
        exact ⟨by rw [hu, elemD_spec he], j', z', u', hj', hz', rfl, rfl, rfl, hu'⟩
      · cases h
    · cases h
  · cases h
def aIndexAddr (P : Program) (t : TypeId) (x i : SV) : Option Res :=
  match esize P t with
  | some (_, s, _, _) => match i.nat with
    | some n => match x with
      | .c (.view id s' off len) => if s' = s ∧ n < len then some (Res.pure (.c (.own id (off + n * s)))) else none
      | .c cv => match cv.lstOf s with
        | some xs => match xs[n]? with
          | some cs => some (Res.pure (.c (.d (.ptr cs 0))))
          | none => none
        | none => none
      | _ => none
    | none => none
  | none => none
theorem run_indexAt_some {P : Program} {t e s : Nat} {j : TypeInfo} (hu : P.underlying t = some (.slice e)) (hj : P.info? e = some j) (hs : j.size = s) (b off len c n : Nat) (k : IntKind) (hn : n < len) (w : World) :
    (Instr.indexAt t (.slice (some ⟨b, off, none⟩) len c) (.int k n)).run P w = .ok (.pointer (some ⟨b, off + n * s, none⟩)) w := by
  unfold Instr.indexAt
  simp only [asIntOf, Sem.run_bind, Sem.run_pure, Result.andThen_ok, run_underlying hu]
  have : (0 : Int) ≤ (n : Int) ∧ (n : Int) < (len : Int) := by omega
  simp [this, run_sizeOf hj, hs, Addr.add_lit]
theorem ok_indexAddr {P : Program} {W0 : Fr} {K0 : Know} {g : G} {H : Hp} {w : World} {r : Res} {t : TypeId} {x i : SV} {v vi : Value} (hh : RelH W0 K0 g H w) (hx : RepS g H x v) (hi : RepS g H i vi) (h : aIndexAddr P t x i = some r) :
    RunOk P W0 K0 (vN (Instr.indexAt t v vi)) g H w r := by
  unfold aIndexAddr at h
  split at h
  · rename_i e s bb zs hes
    obtain ⟨hu, j, z, u, hj, hz, hs, hby, _, _⟩ := esize_spec hes
    split at h
    · rename_i n hn
      obtain ⟨k, rfl⟩ := SV.nat_rep hi hn
      split at h
      · rename_i id s' off len
        split at h
        · rename_i hc
          obtain ⟨rfl, hlt⟩ := hc
          cases h
          obtain ⟨b, c, hb, rfl, hlc, hnr⟩ := hx
          exact RunOk.same hh (by rw [vN_run, run_indexAt_some hu hj hs b off len c n k hlt]; rfl) ⟨b, hb, rfl, hnr⟩
        · cases h
      · rename_i cv _
        split at h
        · rename_i xs hxs
          split at h
          · rename_i cs hcs
            cases h
            obtain ⟨a, c, vs, rfl, hlen, hcap, hr, h1, hk⟩ := (CV.lstOf_rep hx hxs).inv
            have hlt : n < xs.length := (List.getElem?_eq_some_iff.1 hcs).1
            obtain ⟨b, off, rfl, hkk⟩ := hk (by intro e; subst e; simp at hlt)
            refine RunOk.same hh (by rw [vN_run, run_indexAt_some hu hj hs b off xs.length c n k hlt]; rfl) ?_
            have hcl : cs.length = s := hlen cs (List.mem_of_getElem? hcs)
            have htot : xs.flatten.length = xs.length * s := flat_len hlen
            have hle : n * s + s ≤ vs.length := by rw [← hr.1, htot, ← Nat.succ_mul]; exact Nat.mul_le_mul_right _ hlt
            have hget : ∀ j, j < s → ((vs.drop (n * s)).take s)[j]? = vs[n * s + j]? := fun j hj => by rw [List.getElem?_take, if_pos hj, List.getElem?_drop]
            have := Rep.ptr (K := g.K) (cs := cs) (vs := (vs.drop (n * s)).take s) (b := b) (o := off + n * s) (off := 0) (by simp; omega)
              (fun j x v hx hv => by
                have hj : j < s := by have := (List.getElem?_eq_some_iff.1 hx).1; omega
                rw [hget j hj] at hv
                exact hr.2 (n * s + j) x v ((flat_at hlen n cs hcs j hj).trans hx) hv)
              (fun u hu => h1 u (List.mem_of_mem_drop (List.mem_of_mem_take hu)))
              (fun j v hv => by
                have hj : j < s := by have := (List.getElem?_eq_some_iff.1 hv).1; simp at this; omega
                rw [hget j hj] at hv
                have := hkk (n * s + j) v hv
                rw [show off + n * s + j = off + (n * s + j) from by omega]; exact this)
            show Rep g.K _ _
            simpa using this
          · cases h
        · cases h
      · cases h
    · cases h
  · cases h
/-! lengths -/
def CV.lenOf : CV → Option Nat
  | .d (.lst _ xs) => some xs.length
  | .app _ _ xs => some xs.length
  | .full _ xs => some xs.length
  | .view _ _ _ len => some len
  | .d (.val (.slice _ n _)) => some n
  | _ => none
theorem CV.lenOf_rep {g : G} {H : Hp} {x : CV} {v : Value} {n : Nat} (h : RepC g H x v) (hx : x.lenOf = some n) : ∃ a c, v = .slice a n c := by
  unfold CV.lenOf at hx
  split at hx
  · cases hx; obtain ⟨a, c, vs, rfl, _⟩ := Rep.inv h; exact ⟨a, c, rfl⟩
  · cases hx; obtain ⟨a, c, vs, rfl, _⟩ := Rep.inv h.1; exact ⟨a, c, rfl⟩
  · cases hx; obtain ⟨a, c, vs, rfl, _⟩ := Rep.inv h.1; exact ⟨a, c, rfl⟩
  · cases hx; obtain ⟨b, c, _, rfl, _⟩ := h; exact ⟨_, c, rfl⟩
  · cases hx
    have h : Rep g.K _ v := h
    cases h; exact ⟨_, _, rfl⟩
  · cases hx
def aLen (P : Program) (t : TypeId) (x : SV) : Option Res :=
  match x with
  | .c (.d (.val (.string s))) => match P.underlying t with
    | some .string => some (Res.pure (.c (.d (.val (.int .i64 s.size)))))
    | _ => none
  | .c cv => match esize P t with
    | some _ => match cv.lenOf with
      | some n => some (Res.pure (.c (.d (.val (.int .i64 n)))))
      | none => none
    | none => none
  | _ => none
theorem ok_len {P : Program} {W0 : Fr} {K0 : Know} {g : G} {H : Hp} {w : World} {r : Res} {t ty : TypeId} {x : SV} {v : Value} (hh : RelH W0 K0 g H w) (hx : RepS g H x v) (h : aLen P t x = some r) :
    RunOk P W0 K0 (vN (Builtin.len_ #[t] ty #[v])) g H w r := by
  unfold aLen at h
  split at h
  · rename_i s
    split at h
    · rename_i hu
      cases h
      have hx : Rep g.K (.val (.string s)) v := hx
      cases hx
      exact RunOk.same hh (v := .int .i64 s.size) (by rw [vN_run]; simp [Builtin.len_, run_underlying hu, goInt]) (Rep.val _)
    · cases h
  · rename_i cv _
    split at h
    · rename_i q hes
      obtain ⟨e, s, bb, zs⟩ := q
      obtain ⟨hu, _⟩ := esize_spec hes
      split at h
      · rename_i n hn
        cases h
        obtain ⟨a, c, rfl⟩ := CV.lenOf_rep hx hn
        exact RunOk.same hh (v := .int .i64 n) (by rw [vN_run]; simp [Builtin.len_, run_underlying hu, goInt]) (Rep.val _)
      · cases h
    · cases h
  · cases h
/-! slices of lists and of strings -/
def onat : Option SV → Nat → Option Nat
  | none, d => some d
  | some x, _ => x.nat
def isFull : CV → Bool
  | .full _ _ => true
  | _ => false
def aSlice (P : Program) (t : TypeId) (x : SV) (lo hi mx : Option SV) : Option Res :=
  match x with
  | .c (.d (.val (.string s))) => match P.underlying t, mx, onat lo 0, onat hi s.size with
    | some .string, none, some l, some h => if l ≤ h ∧ h ≤ s.size then some (Res.pure (.c (.d (.val (.string (s.extract l h)))))) else none
    | _, _, _, _ => none
  | .c cv => match esize P t with
    | some (_, sz, _, _) => match cv.lstOf sz with
      | some xs => match onat lo 0, onat hi xs.length with
        | some l, some h => match mx with
          | none => if l ≤ h ∧ h ≤ xs.length then some (Res.pure (.c (if isFull cv ∧ h = xs.length then .full sz ((xs.drop l).take (h - l)) else .d (.lst sz ((xs.drop l).take (h - l)))))) else none
          | some m => match m.nat with
            | some m => if l ≤ h ∧ h = m ∧ m ≤ xs.length ∧ hi.isSome then some (Res.pure (.c (.full sz ((xs.drop l).take (h - l))))) else none
            | none => none
        | _, _ => none
      | none => none
    | none => none
  | _ => none
theorem onat_rep {g : G} {H : Hp} {x : Option SV} {v : Option Value} {d n : Nat} (h : match x, v with | none, none => True | some x, some v => RepS g H x v | _, _ => False) (hx : onat x d = some n) :
    (v = none ∧ x = none ∧ n = d) ∨ ∃ k, v = some (.int k n) ∧ x ≠ none := by
  cases x with
  | none => cases v with
    | none => simp [onat] at hx; exact .inl ⟨rfl, rfl, hx.symm⟩
    | some v => exact h.elim
  | some x => cases v with
    | none => exact h.elim
    | some v => obtain ⟨k, rfl⟩ := SV.nat_rep h hx; exact .inr ⟨k, rfl, by simp⟩
theorem run_sliceBound {P : Program} {k : IntKind} {n y : Nat} {code : BoundsCode} (h : n ≤ y) (w : World) : (Instr.sliceBound (.int k n) y code).run P w = .ok n w := by
  unfold Instr.sliceBound
  simp [asIntOf, h]
theorem run_sliceBounds_two {P : Program} {g : G} {H : Hp} {isS : Bool} {lo hi : Option SV} {vlo vhi : Option Value} {len cap l h : Nat} (w : World)
    (hlo : match lo, vlo with | none, none => True | some x, some v => RepS g H x v | _, _ => False) (hhi : match hi, vhi with | none, none => True | some x, some v => RepS g H x v | _, _ => False)
    (h1 : onat lo 0 = some l) (h2 : onat hi len = some h) (hlh : l ≤ h) (hhl : h ≤ len) (hcap : len ≤ cap) : (Instr.sliceBounds isS len cap vlo vhi none).run P w = .ok (l, h, cap) w := by
  unfold Instr.sliceBounds
  rcases onat_rep hhi h2 with ⟨rfl, _, rfl⟩ | ⟨k, rfl, _⟩ <;> rcases onat_rep hlo h1 with ⟨rfl, _, rfl⟩ | ⟨k', rfl, _⟩
  · simp
  · simp [run_sliceBound (P := P) hlh]
  · simp [run_sliceBound (P := P) (show h ≤ cap by omega)]
  · simp [run_sliceBound (P := P) (show h ≤ cap by omega), run_sliceBound (P := P) hlh]
theorem slice_rep {K : Know} {sz : Nat} {xs : List (List D)} {a : Option Addr} {c l h m : Nat} (hr : Rep K (.lst sz xs) (.slice a xs.length c)) (hlh : l ≤ h) (hhx : h ≤ xs.length) (hhm : h ≤ m) (hmc : m ≤ c) :
    Rep K (.lst sz ((xs.drop l).take (h - l))) (.slice (if m = l then a else a.map (·.add (l * sz))) (h - l) (m - l)) := by
  obtain ⟨a', c', vs, e, hs, hc, hrl, h1, hk⟩ := hr.inv
  cases e
  have hlen : ((xs.drop l).take (h - l)).length = h - l := by simp; omega
  have hs' : ∀ x ∈ (xs.drop l).take (h - l), x.length = sz := fun x hx => hs x (List.mem_of_mem_drop (List.mem_of_mem_take hx))
  have hs2 : ∀ x ∈ xs.drop l, x.length = sz := fun x hx => hs x (List.mem_of_mem_drop hx)
  have hfl : ((xs.drop l).take (h - l)).flatten = (xs.flatten.drop (l * sz)).take ((h - l) * sz) := by rw [flat_take hs2, flat_drop hs]
  have htot := flat_len hs
  have key := Rep.lst (K := K) (sz := sz) (xs := (xs.drop l).take (h - l)) (vs := (vs.drop (l * sz)).take ((h - l) * sz)) (a := if m = l then a else a.map (·.add (l * sz))) (c := m - l) hs' (by omega)
    (by rw [hfl]; simp [hrl.1])
    (fun j x v hx hv => by
      rw [hfl, List.getElem?_take] at hx
      rw [List.getElem?_take] at hv
      split at hx
      · rename_i hj
        rw [if_pos hj, List.getElem?_drop] at hv
        rw [List.getElem?_drop] at hx
        exact hrl.2 _ x v hx hv
      · cases hx)
    (fun u hu => h1 u (List.mem_of_mem_drop (List.mem_of_mem_take hu)))
    (fun hne => by
      have hlt : l < h := by
        rcases Nat.lt_or_ge l h with h' | h'
        · exact h'
        · exfalso; apply hne; rw [show h - l = 0 from by omega]; simp
      obtain ⟨b, off, rfl, hkk⟩ := hk (by intro e; rw [e] at hhx; simp at hhx; omega)
      rw [if_neg (by omega)]
      refine ⟨b, off + l * sz, by simp [Addr.add_lit], fun j v hv => ?_⟩
      rw [List.getElem?_take] at hv
      split at hv
      · rw [List.getElem?_drop] at hv
        rw [show off + l * sz + j = off + (l * sz + j) from by omega]
        exact hkk _ v hv
      · cases hv)
  rw [hlen] at key
  exact key
theorem ok_slice {P : Program} {W0 : Fr} {K0 : Know} {g : G} {H : Hp} {w : World} {r : Res} {t : TypeId} {x : SV} {v : Value} {lo hi mx : Option SV} {vlo vhi vmx : Option Value} (hh : RelH W0 K0 g H w) (hx : RepS g H x v)
    (hlo : match lo, vlo with | none, none => True | some x, some v => RepS g H x v | _, _ => False) (hhi : match hi, vhi with | none, none => True | some x, some v => RepS g H x v | _, _ => False)
    (hmx : match mx, vmx with | none, none => True | some x, some v => RepS g H x v | _, _ => False) (h : aSlice P t x lo hi mx = some r) :
    RunOk P W0 K0 (vN (Instr.sliceAt t v vlo vhi vmx)) g H w r := by
  unfold aSlice at h
  split at h
  · rename_i s
    split at h
    · rename_i l hh2 hu h1 h2
      split at h
      · rename_i hc
        cases h
        have hx : Rep g.K (.val (.string s)) v := hx
        cases hx
        cases vmx with
        | some v => exact hmx.elim
        | none =>
          refine RunOk.same hh (v := .string (s.extract l hh2)) ?_ (Rep.val _)
          rw [vN_run]
          unfold Instr.sliceAt Instr.slice
          simp only [Sem.run_bind, run_underlying hu, Result.andThen_ok]
          simp [run_sliceBounds_two (P := P) (isS := false) w hlo hhi h1 h2 hc.1 hc.2 (Nat.le_refl _)]
      · cases h
    · cases h
  · rename_i cv _
    split at h
    · rename_i e sz bb zs hes
      obtain ⟨hu, j, z, u, hj, hz, hs, hby, _, _⟩ := esize_spec hes
      split at h
      · rename_i xs hxs
        have hrep := CV.lstOf_rep hx hxs
        obtain ⟨a, c, vs, rfl, _, hcap, _⟩ := hrep.inv
        split at h
        · rename_i l hh2 h1 h2
          split at h
          · split at h
            · rename_i hc
              cases h
              cases vmx with
              | some v => exact hmx.elim
              | none =>
                have hb := run_sliceBounds_two (P := P) (isS := true) w hlo hhi h1 h2 hc.1 hc.2 hcap
                refine RunOk.same hh (v := .slice (if c = l then a else a.map (·.add (l * sz))) (hh2 - l) (c - l)) ?_ ?_
                · rw [vN_run]
                  unfold Instr.sliceAt Instr.slice
                  simp only [Sem.run_bind, run_underlying hu, Result.andThen_ok, hb, run_sizeOf hj, hs, Sem.run_pure]
                · have hrr := slice_rep hrep hc.1 hc.2 (show hh2 ≤ c by omega) (Nat.le_refl c)
                  show RepC g H _ _
                  split
                  · rename_i hf
                    refine ⟨hrr, (if c = l then a else a.map (·.add (l * sz))), ?_⟩
                    have : ((xs.drop l).take (hh2 - l)).length = hh2 - l := by simp; omega
                    rw [this]
                    cases cv with
                    | full s' xs' =>
                      obtain ⟨_, a', hv⟩ := hx
                      simp only [CV.lstOf] at hxs
                      split at hxs
                      · cases hxs
                        cases hv
                        rw [hf.2]
                      · cases hxs
                    | _ => simp [isFull] at hf
                  · exact hrr
            · cases h
          · rename_i m
            split at h
            · rename_i mm hm
              split at h
              · rename_i hc
                obtain ⟨hc1, rfl, hc2, hc3⟩ := hc
                cases h
                cases vmx with
                | none => exact hmx.elim
                | some vm =>
                  obtain ⟨km, rfl⟩ := SV.nat_rep hmx hm
                  have hb : (Instr.sliceBounds true xs.length c vlo vhi (some (.int km hh2))).run P w = .ok (l, hh2, hh2) w := by
                    unfold Instr.sliceBounds
                    rcases onat_rep hhi h2 with ⟨rfl, e, _⟩ | ⟨k, rfl, _⟩
                    · subst e; simp at hc3
                    · rcases onat_rep hlo h1 with ⟨rfl, _, rfl⟩ | ⟨k', rfl, _⟩
                      · simp [run_sliceBound (P := P) (show hh2 ≤ c by omega), run_sliceBound (P := P) (Nat.le_refl hh2)]
                      · simp [run_sliceBound (P := P) (show hh2 ≤ c by omega), run_sliceBound (P := P) (Nat.le_refl hh2), run_sliceBound (P := P) hc1]
                  refine RunOk.same hh (v := .slice (if hh2 = l then a else a.map (·.add (l * sz))) (hh2 - l) (hh2 - l)) ?_ ?_
                  · rw [vN_run]
                    unfold Instr.sliceAt Instr.slice
                    simp only [Sem.run_bind, run_underlying hu, Result.andThen_ok, hb, run_sizeOf hj, hs, Sem.run_pure]
                  · have hrr := slice_rep hrep hc1 hc2 (Nat.le_refl _) (show hh2 ≤ c by omega)
                    have : ((xs.drop l).take (hh2 - l)).length = hh2 - l := by simp; omega
                    exact ⟨hrr, _, by rw [this]⟩
              · cases h
            · cases h
        · cases h
      · cases h
    · cases h
  · cases h
end Go.Proofs.YticbdcpdooahjaaDoor
