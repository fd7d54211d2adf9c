/- The abstract machine: literals, interfaces, closures, append. -/
import Derived.Test.YticbdcpdooahjaaDoorAbsD
namespace Go.Proofs.YticbdcpdooahjaaDoor
open Go Go.RowKit
set_option linter.unusedVariables false
set_option linter.unusedSimpArgs false
/-! struct and slice literals -/
def afill (place : Nat → Option (Nat × Nat)) : List CV → List (Nat × SV) → Option (List CV)
  | cs, [] => some cs
  | cs, (i, x) :: rest => match place i, x.cells with
    | some (off, size), some ys => if ys.length = size ∧ off + ys.length ≤ cs.length then afill place (splice cs off ys) rest else none
    | _, _ => none
theorem splice_get {α : Type} (vs us : List α) (off : Nat) (h : off + us.length ≤ vs.length) (i : Nat) : (splice vs off us)[i]? = if i < off then vs[i]? else if i < off + us.length then us[i - off]? else vs[i]? := by
  have h0 : (vs.take off).length = off := by simp; omega
  simp only [splice, List.append_assoc]
  split
  · rw [List.getElem?_append_left (by omega), List.getElem?_take, if_pos (by omega)]
  · rw [List.getElem?_append_right (by omega), h0]
    split
    · rw [List.getElem?_append_left (by omega)]
    · rw [List.getElem?_append_right (by omega), List.getElem?_drop]
      congr 1; omega
theorem set_fold (off : Nat) : ∀ (us : List Value) (k : Nat) (vs : List Value), off + k + us.length ≤ vs.length →
    (us.zipIdx k).foldl (fun cs (p : Value × Nat) => Array.setIfInBounds cs (off + p.2) p.1) vs.toArray = (splice vs (off + k) us).toArray
  | [], k, vs, h => by simp [splice]
  | u :: us, k, vs, h => by
    simp only [List.length_cons] at h
    simp only [List.zipIdx_cons, List.foldl_cons, List.setIfInBounds_toArray]
    rw [set_fold off us (k + 1) _ (by simp; omega)]
    congr 1
    apply List.ext_getElem?
    intro i
    rw [splice_get _ _ _ (by simp; omega), splice_get _ _ _ (by simp; omega)]
    simp only [List.length_cons, List.getElem?_set]
    by_cases h1 : i < off + k
    · rw [if_pos (by omega), if_neg (by omega), if_pos h1]
    · by_cases h2 : i = off + k
      · subst h2
        rw [if_pos (by omega), if_pos rfl, if_pos (by omega), if_neg (by omega), if_pos (by omega)]
        simp
      · rw [if_neg (by omega), if_neg (show ¬ i < off + k by omega)]
        by_cases h3 : i < off + (k + 1) + us.length
        · rw [if_pos h3, if_pos (by omega), show i - (off + k) = (i - (off + (k + 1))) + 1 from by omega, List.getElem?_cons_succ]
        · rw [if_neg h3, if_neg (by omega), if_neg (by omega)]
def RepParts (g : G) (H : Hp) : List (Nat × SV) → List (Nat × Value) → Prop
  | [], [] => True
  | (i, x) :: xs, (j, v) :: vs => i = j ∧ RepS g H x v ∧ RepParts g H xs vs
  | _, _ => False
theorem afill_rep {g : G} {H : Hp} {place : Nat → Option (Nat × Nat)} : ∀ {ps : List (Nat × SV)} {cs cs' : List CV} {vs : List Value} {qs : List (Nat × Value)}, RepCs g H cs vs → (∀ u ∈ vs, u.oneCell' = true) → RepParts g H ps qs → afill place cs ps = some cs' →
    ∃ vs' : List Value, Instr.fill place vs.toArray qs = some vs'.toArray ∧ RepCs g H cs' vs' ∧ ∀ u ∈ vs', u.oneCell' = true
  | [], cs, cs', vs, qs, hr, h1, hp, h => by
    cases qs with
    | cons q qs => exact hp.elim
    | nil => simp [afill] at h; subst h; exact ⟨vs, rfl, hr, h1⟩
  | (i, x) :: ps, cs, cs', vs, qs, hr, h1, hp, h => by
    cases qs with
    | nil => exact hp.elim
    | cons q qs =>
      obtain ⟨j, v⟩ := q
      obtain ⟨rfl, hx, hp⟩ := hp
      simp only [afill] at h
      split at h
      · rename_i off size ys hpl hys
        split at h
        · rename_i hc
          obtain ⟨us, hus, hru, h1u⟩ := SV.cells_rep hx hys
          obtain ⟨vs', hf, hr', h1'⟩ := afill_rep (splice_rep hr hru hc.2) (splice_one h1 h1u) hp h
          refine ⟨vs', ?_, hr', h1'⟩
          have e1 := hr.1
          have e2 := hru.1
          have hne : ¬ (v.cells.size ≠ size || decide (off + v.cells.size > vs.toArray.size)) = true := by rw [hus]; simp; omega
          simp only [Instr.fill, hpl]
          rw [if_neg (by simpa using hne)]
          rw [← hf]
          congr 1
          rw [hus]
          have := set_fold off us 0 vs (by omega)
          simp only [Nat.add_zero] at this
          rw [← this]
          rw [← Array.foldl_toList]
          simp
        · cases h
      · cases h
def placeS (i : TInfo) (f : Nat) : Option (Nat × Nat) :=
  match i.fs[f]? with
  | some (o, z, _) => some (o, z)
  | none => none
def aBuild (P : Program) (t : TypeId) (ps : List (Nat × SV)) : Option Res :=
  match TI P t with
  | some i => if i.zero.all (·.oneCell') ∧ i.fs ≠ [] ∧ i.fs.all (fun f => f.2.1 ≠ 0) then match afill (placeS i) (i.zero.map fun v => .d (.val v)) ps with
      | some cs => some (Res.pure (.agg cs))
      | none => none
    else none
  | none => none
theorem mapM_sizes {P : Program} {w : World} : ∀ (l : List Field), (∀ f ∈ l, fszD P f.type ≠ 0) → (l.mapM (fun f => do pure (f.offset, ← sizeOf f.type) : Field → Sem (Nat × Nat))).run P w = .ok (l.map fun f => (f.offset, fszD P f.type)) w
  | [], _ => by simp
  | f :: l, h => by
    obtain ⟨i, u, hi, hu, hk⟩ := fszD_spec (h f (by simp))
    simp only [List.mapM_cons, Sem.run_bind, run_sizeOf hi, Result.andThen_ok, Sem.run_pure, mapM_sizes l (fun g hg => h g (by simp [hg])), List.map_cons, hk]
theorem ok_build {P : Program} {W0 : Fr} {K0 : Know} {g : G} {H : Hp} {w : World} {r : Res} {t : TypeId} {ps : List (Nat × SV)} {qs : Array (Nat × Value)} (hh : RelH W0 K0 g H w) (hp : RepParts g H ps qs.toList) (h : aBuild P t ps = some r) :
    RunOk P W0 K0 (vN (Instr.build t qs)) g H w r := by
  unfold aBuild at h
  split at h
  · rename_i i hi
    obtain ⟨u, j, z, hu, hj, hz, rfl⟩ := TI_spec hi
    split at h
    · rename_i hc
      obtain ⟨h1, hne, hall⟩ := hc
      split at h
      · rename_i cs hcs
        cases h
        cases u with
        | struct fs =>
          have hsz : ∀ f ∈ fs.toList, fszD P f.type ≠ 0 := fun f hf => by
            have := List.all_eq_true.1 hall (f.offset, fszD P f.type, _) (List.mem_map.2 ⟨f, hf, rfl⟩)
            simpa using this
          obtain ⟨vs', hf, hr, h1'⟩ := afill_rep (place := fun i => (fs.toList.map fun f => (f.offset, fszD P f.type))[i]?) (vals_rep g H z.cells.toList) (fun u hu => List.all_eq_true.1 h1 u hu) hp (by
            rw [← hcs]
            congr 1
            funext k
            simp only [placeS, fsD, List.getElem?_map]
            cases fs.toList[k]? <;> rfl)
          refine RunOk.same hh (v := .agg vs'.toArray) ?_ ⟨vs', rfl, hr, h1'⟩
          rw [vN_run]
          unfold Instr.build
          have hm := mapM_sizes (P := P) (w := w) fs.toList hsz
          simp only [Sem.run_bind, zeroValue, typeInfo, run_program, Result.andThen_ok, hj, Sem.run_pure, hz, run_underlying hu, Array.mapM_eq_mapM_toList, Sem.run_map, hm]
          have hf2 : Instr.fill (fun x => ((fs.toList.map fun f => (f.offset, fszD P f.type)).toArray)[x]?) z.cells qs.toList = some vs'.toArray := by
            rw [← hf]; congr 1; funext x; simp
          simp only [hf2, Sem.run_pure, Result.andThen_ok]
        | _ => simp [fsD] at hne
      · cases h
    · cases h
  · cases h
def chunk {α : Type} (sz : Nat) : Nat → List α → List (List α)
  | 0, _ => []
  | n + 1, l => l.take sz :: chunk sz n (l.drop sz)
theorem chunk_spec {α : Type} (sz : Nat) : ∀ (n : Nat) (l : List α), l.length = n * sz → (chunk sz n l).flatten = l ∧ (chunk sz n l).length = n ∧ ∀ x ∈ chunk sz n l, x.length = sz
  | 0, l, h => by simp at h; subst h; simp [chunk]
  | n + 1, l, h => by
    rw [Nat.succ_mul] at h
    obtain ⟨h1, h2, h3⟩ := chunk_spec sz n (l.drop sz) (by simp; omega)
    refine ⟨by simp [chunk, h1], by simp [chunk, h2], fun x hx => ?_⟩
    simp only [chunk, List.mem_cons] at hx
    rcases hx with rfl | hx
    · simp; omega
    · exact h3 x hx
/-- A new list, that nobody writes: the block, the knowledge of it, the value. -/
theorem new_list {P : Program} {W0 : Fr} {K0 : Know} {g : G} {H : Hp} {w : World} {ds : List D} {vs : List Value} {sz n : Nat} (t : TypeId) (rest : List Value) (hh : RelH W0 K0 g H w) (hr : RepL g.K ds vs) (h1 : ∀ u ∈ vs, u.oneCell' = true) (hl : ds.length = n * sz) (c : Nat) (hc : n ≤ c) :
    RelH W0 K0 { g with K := Kadd g.K w.heap.size vs } H (w.alloc (.cells (vs ++ rest).toArray t)) ∧ GLe g H { g with K := Kadd g.K w.heap.size vs } H ∧
    Rep (Kadd g.K w.heap.size vs) (.lst sz (chunk sz n ds)) (.slice (some ⟨w.heap.size, 0, none⟩) n c) := by
  have he := Kadd_ext hh.kw vs
  refine ⟨hh.grow (below_alloc w _) he (Kadd_kw hh.kw vs _ t _ (fun j v hj => ?_)), GLe.ofK he.1, ?_⟩
  · have hlt := (List.getElem?_eq_some_iff.1 hj).1
    simp [List.getElem?_append_left hlt, hj]
  · obtain ⟨h2, h3, h4⟩ := chunk_spec sz n ds hl
    have hr' := hr.mono he.1
    have := Rep.lst (K := Kadd g.K w.heap.size vs) (sz := sz) (xs := chunk sz n ds) (vs := vs) (a := some ⟨w.heap.size, 0, none⟩) (c := c) h4 (by omega) (by rw [h2]; exact hr.1) (by rw [h2]; exact hr'.2) h1
      (fun _ => ⟨w.heap.size, 0, rfl, fun j v hj => by unfold Kadd; rw [if_pos rfl, Nat.zero_add]; exact hj⟩)
    rw [h3] at this
    exact this
def zeroRow (zs : List Value) (n : Nat) : List Value := (List.range n).map fun i => zs.toArray[i % zs.length]!
def zrow (zs : List Value) : Nat → List Value
  | 0 => []
  | n + 1 => zs ++ zrow zs n
theorem zrow_len (zs : List Value) : ∀ n, (zrow zs n).length = n * zs.length
  | 0 => by simp [zrow]
  | n + 1 => by simp [zrow, zrow_len zs n, Nat.succ_mul]; omega
theorem zrow_get (zs : List Value) (h : zs.length ≠ 0) : ∀ n i, i < n * zs.length → (zrow zs n)[i]? = zs[i % zs.length]?
  | 0, i, hi => by simp at hi
  | n + 1, i, hi => by
    rw [Nat.succ_mul] at hi
    simp only [zrow]
    by_cases h1 : i < zs.length
    · rw [List.getElem?_append_left h1, Nat.mod_eq_of_lt h1]
    · rw [List.getElem?_append_right (by omega), zrow_get zs h n _ (by omega), Nat.mod_eq_sub_mod (a := i) (by omega)]
theorem zrow_eq (zs : List Value) (h : zs.length ≠ 0) (n : Nat) : zrow zs n = zeroRow zs (n * zs.length) := by
  apply List.ext_getElem?
  intro i
  by_cases hi : i < n * zs.length
  · rw [zrow_get zs h n i hi]
    have hlt : i % zs.length < zs.length := Nat.mod_lt _ (by omega)
    simp [zeroRow, hi, hlt]
  · rw [List.getElem?_eq_none (by rw [zrow_len]; omega), List.getElem?_eq_none (by simp [zeroRow]; omega)]
def aBuildSlice (P : Program) (t : TypeId) (len : Nat) (ps : List (Nat × SV)) : Option Res :=
  match esize P t with
  | some (_, sz, _, zs) => if len = 0 then match ps with
      | [] => some (Res.pure (.c (.full sz [])))
      | _ => none
    else if len * sz ≤ 16777216 ∧ 0 < len * sz ∧ zs.length = sz ∧ zs.all (·.oneCell') then
      match afill (fun i => some (i * sz, sz)) ((zrow zs len).map fun v => .d (.val v)) ps with
      | some cs => match mapO CV.toD0 cs with
        | some ds => if ds.length = len * sz then some (Res.pure (.c (.full sz (chunk sz len ds)))) else none
        | none => none
      | none => none
    else none
  | none => none
theorem ok_buildSlice {P : Program} {W0 : Fr} {K0 : Know} {g : G} {H : Hp} {w : World} {r : Res} {t : TypeId} {len : Nat} {ps : List (Nat × SV)} {qs : Array (Nat × Value)} (hh : RelH W0 K0 g H w) (hp : RepParts g H ps qs.toList) (h : aBuildSlice P t len ps = some r) :
    RunOk P W0 K0 (vN (Instr.buildSlice t len qs)) g H w r := by
  unfold aBuildSlice at h
  split at h
  · rename_i e sz bb zs hes
    obtain ⟨hu, j, z, u, hj, hz, hs, hby, hzs, _⟩ := esize_spec hes
    split at h
    · rename_i h0
      split at h
      · cases h
        subst h0
        have hq : qs.toList = [] := by
          cases hq : qs.toList with
          | nil => rfl
          | cons a l => rw [hq] at hp; exact hp.elim
        have hnl := new_list (P := P) (sz := sz) (n := 0) (ds := []) (vs := []) e [] hh ⟨rfl, fun j x v hx => by simp at hx⟩ (by simp) (by simp) 0 (Nat.le_refl _)
        refine ⟨_, .slice (some ⟨w.heap.size, 0, none⟩) 0 0, w.alloc (.cells #[] e), _, ?_, .inl rfl, ⟨hnl.2.2, some ⟨w.heap.size, 0, none⟩, rfl⟩, hnl.1, hnl.2.1⟩
        rw [vN_run]
        unfold Instr.buildSlice
        simp [run_underlying hu, run_sizeOf hj, hs, hq, Instr.fill, newRow]
        rw [show Array.map (fun (_ : Nat) => (default : Value)) (Array.range 0) = #[] from by apply Array.ext'; simp]
      · cases h
    · split at h
      rotate_left
      · cases h
      rename_i hc
      obtain ⟨hc1, hc2, hc3', hc4⟩ := hc
      have hc3 : zs.length ≠ 0 := by intro e; rw [← hc3', e] at hc2; simp at hc2
      rw [zrow_eq zs hc3 len, hc3'] at h
      split at h
      · rename_i cs hcs
        split at h
        · rename_i ds hds
          split at h
          · rename_i hdl
            cases h
            have hz1 : ∀ u ∈ zeroRow zs (len * sz), u.oneCell' = true := fun u hu => by
              simp only [zeroRow, List.mem_map, List.mem_range] at hu
              obtain ⟨i, hi, rfl⟩ := hu
              have hlt : i % zs.length < zs.length := Nat.mod_lt _ (by omega)
              have : zs.toArray[i % zs.length]! = zs[i % zs.length] := by simp [hlt]
              rw [this]
              exact List.all_eq_true.1 hc4 _ (List.getElem_mem hlt)
            obtain ⟨vs, hf, hr, h1⟩ := afill_rep (vals_rep g H (zeroRow zs (len * sz))) hz1 hp hcs
            have hL := hr.toD0 hds
            obtain ⟨h2, h3, h4⟩ := new_list (P := P) (sz := sz) (n := len) e [] hh hL h1 hdl len (Nat.le_refl _)
            have hlen : (chunk sz len ds).length = len := (chunk_spec sz len ds hdl).2.1
            refine ⟨_, .slice (some ⟨w.heap.size, 0, none⟩) len len, _, _, ?_, .inl rfl, ⟨h4, some ⟨w.heap.size, 0, none⟩, by rw [hlen]⟩, h2, h3⟩
            have hrow : (Array.range (len * sz)).map (fun x => z.cells[x % z.cells.size]!) = (zeroRow zs (len * sz)).toArray := by
              subst hzs
              apply Array.ext'
              simp [zeroRow]
            rw [vN_run]
            unfold Instr.buildSlice
            simp only [Sem.run_bind, run_underlying hu, Result.andThen_ok, run_sizeOf hj, hs]
            rw [if_neg (by omega)]
            rw [if_neg (by omega)]
            simp only [Sem.run_bind, zeroValue, typeInfo, run_program, Result.andThen_ok, hj, Sem.run_pure, hz, hrow, hf]
            simp [newRow]
          · cases h
        · cases h
      · cases h
  · cases h
/-! interfaces, closures, tuples -/
def aIface (P : Program) (t : TypeId) (H : Hp) (x : SV) : Option Res :=
  match TI P t with
  | some i => if i.iface then none else match x with
    | .c (.own id off) => match H id with
      | some (.froz ds) => some ⟨.c (.d (.iface t (.ptr ds off))), none, [id], false⟩
      | some (.cells cs) => match mapO CV.toD0 cs with
        | some ds => some ⟨.c (.d (.iface t (.ptr ds off))), some (id, .froz ds), [id], false⟩
        | none => none
      | _ => none
    | .c cv => match cv.toD0 with
      | some y => some (Res.pure (.c (.d (.iface t y))))
      | none => none
    | .agg cs => match mapO CV.toD0 cs with
      | some ds => some (Res.pure (.c (.d (.iface t (.agg ds)))))
      | none => none
  | none => none
theorem run_makeIface {P : Program} {t : TypeId} {u : TypeDesc} (hu : P.underlying t = some u) (hi : ifaceD u = false) (v : Value) (w : World) : (Instr.makeInterface t v).run P w = .ok (.iface t v) w := by
  unfold Instr.makeInterface
  simp only [Sem.run_bind, run_underlying hu, Result.andThen_ok]
  cases u <;> first | rfl | simp [ifaceD] at hi
theorem ok_iface {P : Program} {W0 : Fr} {K0 : Know} {g : G} {H : Hp} {w : World} {r : Res} {t : TypeId} {x : SV} {v : Value} (hh : RelH W0 K0 g H w) (hx : RepS g H x v) (h : aIface P t H x = some r) :
    RunOk P W0 K0 (vN (Instr.makeInterface t v)) g H w r := by
  unfold aIface at h
  split at h
  · rename_i i hi
    obtain ⟨u, j, z, hu, hj, hz, rfl⟩ := TI_spec hi
    split at h
    · cases h
    · rename_i hif
      have hif : ifaceD u = false := by simpa using hif
      have hrun : (vN (Instr.makeInterface t v)).run P w = .ok (.value (.iface t v)) w := by rw [vN_run, run_makeIface hu hif]; rfl
      split at h
      · rename_i id off
        split at h
        · rename_i ds hds
          cases h
          have hd := CV.toD_rep hh (x := .own id off) (y := .ptr ds off) hx (by simp [CV.toD, hds])
          exact ⟨_, _, w, g, hrun, .inl rfl, Rep.iface hd, hh, GLe.refl _ _⟩
        · rename_i cs hcs
          split at h
          · rename_i ds hds
            cases h
            obtain ⟨g', h2, h3⟩ := hh.freeze hcs hds
            have hx' := h3 (.own id off) v hx
            have hd := CV.toD_rep h2 (x := .own id off) (y := .ptr ds off) hx' (by simp [CV.toD, upd_same])
            exact ⟨_, _, w, g', hrun, .inl rfl, Rep.iface hd, h2, h3⟩
          · cases h
        · cases h
      · rename_i cv _
        split at h
        · rename_i y hy
          cases h
          exact RunOk.same hh hrun (Rep.iface (CV.toD0_rep hx hy))
        · cases h
      · rename_i cs
        split at h
        · rename_i ds hds
          cases h
          obtain ⟨vs, rfl, hr, h1⟩ := hx
          have := hr.toD0 hds
          exact RunOk.same hh hrun (Rep.iface (.agg this.1 this.2 h1))
        · cases h
  · cases h
def capD (H : Hp) : SV → Option D
  | .c x => x.toD H
  | .agg _ => none
def ownId : SV → List Nat
  | .c (.own id _) => [id]
  | _ => []
def aMakeFunc (H : Hp) (fn : Fn) (first caps : List SV) : Option Res :=
  match first, mapO (capD H) caps with
  | [], some ds => some ⟨.c (.d (.fn fn ds)), none, caps.flatMap ownId, false⟩
  | _, _ => none
def RepSs (g : G) (H : Hp) (xs : List SV) (vs : List Value) : Prop := xs.length = vs.length ∧ ∀ (j : Nat) (x : SV) (v : Value), xs[j]? = some x → vs[j]? = some v → RepS g H x v
theorem ok_makeFunc {P : Program} {W0 : Fr} {K0 : Know} {g : G} {H : Hp} {w : World} {r : Res} {fn : Fn} {first caps : List SV} {vf vc : List Value} (hh : RelH W0 K0 g H w) (hf : RepSs g H first vf) (hc : RepSs g H caps vc) (h : aMakeFunc H fn first caps = some r) :
    RunOk P W0 K0 (vN (Instr.makeFunc fn vf.toArray vc.toArray)) g H w r := by
  unfold aMakeFunc at h
  split at h
  · rename_i ds hds
    cases h
    have : vf = [] := List.eq_nil_of_length_eq_zero (by have := hf.1; simp at this; omega)
    subst this
    refine RunOk.same hh (v := .func fn #[] vc.toArray) (by rw [vN_run]; simp [Instr.makeFunc]) ?_
    obtain ⟨h1, h2⟩ := mapO_get hds
    refine Rep.fn (h1.trans hc.1) (fun j x v hx hv => ?_)
    obtain ⟨s, hs, hsx⟩ := h2 j x hx
    cases s with
    | c y => exact CV.toD_rep hh (hc.2 j _ v hs hv) hsx
    | agg cs => simp [capD] at hsx
  · cases h
def aExtract (x : SV) (i : Nat) : Option Res :=
  match x with
  | .c (.d (.tup rs)) => match rs[i]? with
    | some y => some (Res.pure (SV.ofD y))
    | none => none
  | _ => none
theorem ok_extract {P : Program} {W0 : Fr} {K0 : Know} {g : G} {H : Hp} {w : World} {r : Res} {x : SV} {i : Nat} {v : Value} (hh : RelH W0 K0 g H w) (hx : RepS g H x v) (h : aExtract x i = some r) :
    RunOk P W0 K0 (vN (Instr.extract v i)) g H w r := by
  unfold aExtract at h
  split at h
  · rename_i rs
    split at h
    · rename_i y hy
      cases h
      have hx : Rep g.K (.tup rs) v := hx
      cases hx with
      | tup hl hv =>
        rename_i vs
        have hlt : i < vs.length := by have := (List.getElem?_eq_some_iff.1 hy).1; omega
        refine RunOk.same hh (v := vs[i]) (by rw [vN_run]; simp [Instr.extract, hlt]) (ofD_rep (hv i y vs[i] hy (List.getElem?_eq_getElem hlt)) g H rfl)
    · cases h
  · cases h
end Go.Proofs.YticbdcpdooahjaaDoor
