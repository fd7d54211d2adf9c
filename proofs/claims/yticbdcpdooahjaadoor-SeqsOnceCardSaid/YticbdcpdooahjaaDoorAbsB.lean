/- The abstract machine: operations that read or only compute, and what they do in the model. -/
import Derived.Test.YticbdcpdooahjaaDoorAbsA
namespace Go.Proofs.YticbdcpdooahjaaDoor
open Go Go.RowKit
set_option linter.unusedVariables false
set_option linter.unusedSimpArgs false
/-- What the machine asks of a type. -/
structure TInfo where
  agg : Bool
  size : Nat
  bytes : Nat
  zero : List Value
  fs : List (Nat × Nat × Bool)
  elem : Option Nat
  iface : Bool
def aggD : TypeDesc → Bool
  | .struct _ => true
  | .array _ _ => true
  | _ => false
def fszD (P : Program) (t : TypeId) : Nat :=
  match P.info? t, P.underlying t with
  | some i, some _ => i.size
  | _, _ => 0
theorem fszD_spec {P : Program} {t : TypeId} (h : ¬ fszD P t = 0) : ∃ i u, P.info? t = some i ∧ P.underlying t = some u ∧ fszD P t = i.size := by
  unfold fszD at *
  split at h
  · rename_i i u hi hu; exact ⟨i, u, hi, hu, by rfl⟩
  · exact absurd rfl h
def fsD (P : Program) : TypeDesc → List (Nat × Nat × Bool)
  | .struct fs => fs.toList.map fun f => (f.offset, fszD P f.type, ((P.underlying f.type).map aggD).getD false)
  | _ => []
def elemD : TypeDesc → Option Nat
  | .slice e => some e
  | _ => none
def ifaceD : TypeDesc → Bool
  | .interface _ => true
  | _ => false
def TI (P : Program) (t : TypeId) : Option TInfo :=
  match P.underlying t, P.info? t with
  | some u, some i => match i.zero with
    | some z => some { agg := aggD u, size := i.size, bytes := i.bytes, zero := z.cells.toList, fs := fsD P u, elem := elemD u, iface := ifaceD u }
    | none => none
  | _, _ => none
theorem TI_spec {P : Program} {t : TypeId} {i : TInfo} (h : TI P t = some i) : ∃ u j z, P.underlying t = some u ∧ P.info? t = some j ∧ j.zero = some z ∧
    i = { agg := aggD u, size := j.size, bytes := j.bytes, zero := z.cells.toList, fs := fsD P u, elem := elemD u, iface := ifaceD u } := by
  unfold TI at h
  split at h
  · rename_i u j hu hj
    split at h
    · rename_i z hz
      cases h
      exact ⟨u, j, z, hu, hj, hz, rfl⟩
    · cases h
  · cases h
structure Res where
  v : SV
  up : Option (Nat × HE)
  fp : List Nat
  al : Bool
def hup (H : Hp) : Option (Nat × HE) → Hp
  | none => H
  | some (id, he) => upd H id (some he)
def Res.pure (v : SV) : Res := ⟨v, none, [], false⟩
/-- What a run of the operation does is what the machine says. -/
def RunOk (P : Program) (W0 : Fr) (K0 : Know) (s : Sem Next) (g : G) (H : Hp) (w : World) (r : Res) : Prop :=
  ∃ n v w' g', s.run P w = .ok n w' ∧ (n = .value v ∨ (n = .skip ∧ v = undef)) ∧ RepS g' (hup H r.up) r.v v ∧ RelH W0 K0 g' (hup H r.up) w' ∧ GLe g H g' (hup H r.up)
theorem RunOk.same {P : Program} {W0 : Fr} {K0 : Know} {s : Sem Next} {g : G} {H : Hp} {w : World} {x : SV} {fp : List Nat} {al : Bool} {v : Value} (hh : RelH W0 K0 g H w)
    (hr : s.run P w = .ok (.value v) w) (hv : RepS g H x v) : RunOk P W0 K0 s g H w ⟨x, none, fp, al⟩ :=
  ⟨_, v, w, g, hr, .inl rfl, hv, hh, GLe.refl _ _⟩
/-- A run that asks the program alone. -/
def pureRun (P : Program) {α : Type} : Sem α → Option α
  | .pure a => some a
  | .program k => pureRun P (k P)
  | .mark _ k => pureRun P k
  | _ => none
theorem pureRun_sound (P : Program) {α : Type} (w : World) : ∀ (s : Sem α) {a : α}, pureRun P s = some a → s.run P w = .ok a w := by
  intro s
  induction s with
  | pure a => intro b h; simp [pureRun] at h; subst h; rfl
  | program k ih => intro b h; simp only [pureRun] at h; simp only [Sem.run]; exact ih P h
  | mark m k ih => intro b h; simp only [pureRun] at h; simp only [Sem.run]; exact ih h
  | _ => intro b h; simp [pureRun] at h
def CV.exact : CV → Option Value
  | .d (.val v) => some v
  | _ => none
def SV.exact : SV → Option Value
  | .c x => x.exact
  | .agg cs => match mapO CV.exact cs with
    | some vs => some (.agg vs.toArray)
    | none => none
theorem CV.exact_rep {g : G} {H : Hp} {x : CV} {v u : Value} (h : RepC g H x v) (hx : x.exact = some u) : v = u := by
  cases x with
  | d x =>
    cases x with
    | val z => simp [CV.exact] at hx; subst hx; cases h; rfl
    | _ => simp [CV.exact] at hx
  | _ => simp [CV.exact] at hx
theorem SV.exact_rep {g : G} {H : Hp} {x : SV} {v u : Value} (h : RepS g H x v) (hx : x.exact = some u) : v = u := by
  cases x with
  | c x => exact CV.exact_rep h hx
  | agg cs =>
    simp only [SV.exact] at hx
    split at hx
    · rename_i us hus
      cases hx
      obtain ⟨vs, rfl, hr, _⟩ := h
      obtain ⟨h1, h2⟩ := mapO_get hus
      congr 1
      have hlen : us.length = vs.length := h1.trans hr.1
      have : vs = us := by
        apply List.ext_getElem hlen.symm
        intro j hj hj'
        obtain ⟨c, hc, hce⟩ := h2 j us[j] (List.getElem?_eq_getElem hj')
        exact CV.exact_rep (hr.2 j c vs[j] hc (List.getElem?_eq_getElem hj)) hce
      rw [this]
    · cases hx
/-! Scalars -/
def sc (P : Program) (s : Sem Value) : Option Res :=
  match pureRun P s with
  | some v => some (Res.pure (ofV v))
  | none => none
def vN (s : Sem Value) : Sem Next := do pure (.value (← s))
theorem vN_run (P : Program) (s : Sem Value) (w : World) : (vN s).run P w = (s.run P w).andThen fun v w' => .ok (.value v) w' := by
  unfold vN; simp
theorem ok_sc {P : Program} {W0 : Fr} {K0 : Know} {s : Sem Value} {g : G} {H : Hp} {w : World} {r : Res} (hh : RelH W0 K0 g H w) (h : sc P s = some r) : RunOk P W0 K0 (vN s) g H w r := by
  unfold sc at h
  split at h
  · rename_i v hv
    cases h
    exact RunOk.same hh (by rw [vN_run, pureRun_sound P w s hv]; rfl) (ofV_rep _ _ _)
  · cases h
/-! Loads -/
def ldv (P : Program) (t : TypeId) (cs : List CV) (off : Nat) : Option SV :=
  match TI P t with
  | some i => if i.agg then (if off + i.size ≤ cs.length then some (.agg ((cs.drop off).take i.size)) else none)
    else match cs[off]? with
      | some c => some (.c c)
      | none => none
  | none => none
theorem run_isAgg {P : Program} {t : TypeId} {u : TypeDesc} (h : P.underlying t = some u) (w : World) : (isAgg t).run P w = .ok (aggD u) w := by
  unfold isAgg
  simp only [Sem.run_bind, run_underlying h, Result.andThen_ok]
  cases u <;> rfl
theorem run_sizeOf {P : Program} {t : TypeId} {j : TypeInfo} (h : P.info? t = some j) (w : World) : (sizeOf t).run P w = .ok j.size w := by
  simp [sizeOf, typeInfo, h]
theorem run_loadAt_cells {P : Program} {t : TypeId} {w : World} {b o : Nat} {vs : List Value} {cs : List CV} {off : Nat} {g : G} {H : Hp} {x : SV}
    (hc : ∀ (j : Nat) v, vs[j]? = some v → w.cell? ⟨b, o + j, none⟩ = some v) (hr : RepCs g H cs vs) (h1 : ∀ u ∈ vs, u.oneCell' = true) (h : ldv P t cs off = some x) :
    ∃ v, (Instr.loadAt t (.pointer (some ⟨b, o + off, none⟩))).run P w = .ok v w ∧ RepS g H x v := by
  unfold ldv at h
  split at h
  · rename_i i hi
    obtain ⟨u, j, z, hu, hj, hz, rfl⟩ := TI_spec hi
    simp only at h
    split at h
    · rename_i hagg
      split at h
      · rename_i hlen
        cases h
        have hl : (vs.drop off).length ≥ j.size := by simp; have := hr.1; omega
        have hload := run_loadCells_list (P := P) w (⟨b, o + off, none⟩ : Addr) ((vs.drop off).take j.size) (fun k v hk => by
          rw [Addr.add_lit]
          rw [List.getElem?_take] at hk
          split at hk
          · rw [List.getElem?_drop] at hk
            have := hc _ _ hk
            rw [show o + off + k = o + (off + k) from by omega]; exact this
          · cases hk)
        rw [show ((vs.drop off).take j.size).length = j.size from by simp; have := hr.1; omega] at hload
        refine ⟨.agg ((vs.drop off).take j.size).toArray, ?_, _, rfl, ⟨by simp [hr.1], fun k c v hk hv => ?_⟩, fun u hu => h1 u (List.mem_of_mem_drop (List.mem_of_mem_take hu))⟩
        · unfold Instr.loadAt Instr.sureAddr loadVar
          simp only [Sem.run_bind, Sem.run_pure, Result.andThen_ok, run_isAgg hu, hagg, if_true, run_sizeOf hj, hload]
        · rw [List.getElem?_take] at hk hv
          split at hk
          · rename_i hkl
            rw [if_pos hkl] at hv
            rw [List.getElem?_drop] at hk hv
            exact hr.2 _ _ _ hk hv
          · cases hk
      · cases h
    · rename_i hagg
      split at h
      · rename_i c hcc
        cases h
        have hlt : off < vs.length := by have := (List.getElem?_eq_some_iff.1 hcc).1; have := hr.1; omega
        have hcell := hc off vs[off] (List.getElem?_eq_getElem hlt)
        refine ⟨vs[off], ?_, hr.2 off c _ hcc (List.getElem?_eq_getElem hlt)⟩
        unfold Instr.loadAt Instr.sureAddr loadVar
        rw [Bool.not_eq_true] at hagg
        simp only [Sem.run_bind, Sem.run_pure, Result.andThen_ok, run_isAgg hu, hagg]
        simp [hcell]
      · cases h
  · cases h
def aLoad (P : Program) (t : TypeId) (H : Hp) : SV → Option Res
  | .c (.own id off) => match H id with
    | some (.cells cs) => match ldv P t cs off with
      | some x => some ⟨x, none, [id], false⟩
      | none => none
    | some (.froz ds) => match ldv P t (ds.map .d) off with
      | some x => some ⟨x, none, [id], false⟩
      | none => none
    | _ => none
  | .c (.d (.ptr ds off)) => match ldv P t (ds.map .d) off with
    | some x => some (Res.pure x)
    | none => none
  | _ => none
theorem RepL.cs {g : G} {ds : List D} {vs : List Value} (h : RepL g.K ds vs) (H : Hp) : RepCs g H (ds.map .d) vs :=
  ⟨by simpa using h.1, fun j x v hx hv => by
    simp only [List.getElem?_map, Option.map_eq_some_iff] at hx
    obtain ⟨y, hy, rfl⟩ := hx
    exact h.2 j y v hy hv⟩
theorem cell_of_cells {w : World} {b : Nat} {vs : List Value} {t : TypeId} {fr : Nat × Nat} (h : w.heap[b]? = some (.cells vs.toArray t fr)) (j : Nat) : w.cell? ⟨b, j, none⟩ = vs[j]? := by
  simp [World.cell?, h]
theorem load_run {P : Program} {W0 : Fr} {K0 : Know} {g : G} {H : Hp} {w : World} {r : Res} {t : TypeId} {x : SV} {v : Value} (hh : RelH W0 K0 g H w) (hx : RepS g H x v) (h : aLoad P t H x = some r) :
    ∃ u, (Instr.loadAt t v).run P w = .ok u w ∧ RepS g H r.v u ∧ r.up = none := by
  unfold aLoad at h
  split at h
  · rename_i id off
    obtain ⟨b, hb, rfl, hnr⟩ := hx
    split at h
    · rename_i cs hcs
      obtain ⟨b', vs, t', hb', hheap, hr, h1, hk⟩ := hh.holds id _ hcs
      rw [hb] at hb'; cases hb'
      split at h
      · rename_i y hy
        cases h
        obtain ⟨u, hu, hru⟩ := run_loadAt_cells (P := P) (w := w) (b := b) (o := 0) (fun j v hj => by rw [Nat.zero_add, cell_of_cells hheap]; exact hj) hr h1 hy
        rw [Nat.zero_add] at hu
        exact ⟨u, hu, hru, rfl⟩
      · cases h
    · rename_i ds hds
      obtain ⟨b', vs, hb', hr, h1, hk⟩ := hh.holds id _ hds
      rw [hb] at hb'; cases hb'
      split at h
      · rename_i y hy
        cases h
        obtain ⟨u, hu, hru⟩ := run_loadAt_cells (P := P) (w := w) (b := b) (o := 0) (fun j v hj => by rw [Nat.zero_add]; exact hh.kw _ _ _ (hk j v hj)) (hr.cs H) h1 hy
        rw [Nat.zero_add] at hu
        exact ⟨u, hu, hru, rfl⟩
      · cases h
    · cases h
  · rename_i ds off
    split at h
    · rename_i y hy
      cases h
      generalize hpd : D.ptr ds off = pd at hx
      cases hx with
      | ptr hl hv h1 hk =>
        cases hpd
        obtain ⟨u, hu, hru⟩ := run_loadAt_cells (P := P) (w := w) (fun j v hj => hh.kw _ _ _ (hk j v hj)) (RepL.cs (g := g) ⟨hl, hv⟩ H) h1 hy
        exact ⟨u, hu, hru, rfl⟩
      | _ => cases hpd
    · cases h
  · cases h
theorem ok_load {P : Program} {W0 : Fr} {K0 : Know} {g : G} {H : Hp} {w : World} {r : Res} {t : TypeId} {x : SV} {v : Value} (hh : RelH W0 K0 g H w) (hx : RepS g H x v) (h : aLoad P t H x = some r) :
    RunOk P W0 K0 (vN (Instr.loadAt t v)) g H w r := by
  obtain ⟨u, h1, h2, h3⟩ := load_run (P := P) hh hx h
  obtain ⟨rv, ru, rf, ra⟩ := r
  simp only at h3
  subst h3
  exact RunOk.same hh (by rw [vN_run, h1]; rfl) h2
/-! Addresses of fields and elements; parts of values -/
def aField (P : Program) (s : TypeId) (f : Nat) : SV → Option Res
  | .c (.own id off) => match TI P s with
    | some i => match i.fs[f]? with
      | some (o, z, _) => if z = 0 then none else some (Res.pure (.c (.own id (off + o))))
      | none => none
    | none => none
  | .c (.d (.ptr ds off)) => match TI P s with
    | some i => match i.fs[f]? with
      | some (o, z, _) => if z = 0 then none else some (Res.pure (.c (.d (.ptr ds (off + o)))))
      | none => none
    | none => none
  | _ => none
theorem fsD_spec {P : Program} {u : TypeDesc} {f : Nat} {x : Nat × Nat × Bool} (h : (fsD P u)[f]? = some x) : ∃ fs fd, u = .struct fs ∧ fs[f]? = some fd ∧ x = (fd.offset, fszD P fd.type, ((P.underlying fd.type).map aggD).getD false) := by
  cases u with
  | struct fs =>
    simp only [fsD, List.getElem?_map, Option.map_eq_some_iff] at h
    obtain ⟨fd, h1, h2⟩ := h
    exact ⟨fs, fd, rfl, by simpa using h1, h2.symm⟩
  | _ => simp [fsD] at h
theorem run_fieldAt_own {P : Program} {s : TypeId} {i : TInfo} {f o z : Nat} {ag : Bool} (hi : TI P s = some i) (hf : i.fs[f]? = some (o, z, ag)) (hz : ¬ z = 0) (b off : Nat) (w : World) :
    (Instr.fieldAt s (.pointer (some ⟨b, off, none⟩)) f).run P w = .ok (.pointer (some ⟨b, off + o, none⟩)) w := by
  obtain ⟨u, j, zz, hu, hj, hzz, rfl⟩ := TI_spec hi
  obtain ⟨fs, fd, rfl, hfd, hx⟩ := fsD_spec hf
  simp only [Prod.mk.injEq] at hx
  obtain ⟨rfl, rfl, _⟩ := hx
  obtain ⟨k, ud, hinf, hun, hk⟩ := fszD_spec hz
  unfold Instr.fieldAt
  simp only [Sem.run_bind, run_underlying hu, Result.andThen_ok, hfd]
  simp [Instr.sureAddr, fieldPlace, run_sizeOf hinf, Addr.add_lit, show ¬ k.size = 0 from by omega]
theorem ok_field_addr {P : Program} {W0 : Fr} {K0 : Know} {g : G} {H : Hp} {w : World} {r : Res} {s : TypeId} {f : Nat} {x : SV} {v : Value} (hh : RelH W0 K0 g H w) (hx : RepS g H x v) (h : aField P s f x = some r) :
    RunOk P W0 K0 (vN (Instr.fieldAt s v f)) g H w r := by
  unfold aField at h
  split at h
  · rename_i id off
    obtain ⟨b, hb, rfl, hnr⟩ := hx
    split at h
    · rename_i i hi
      split at h
      · rename_i o z ag hf
        split at h
        · cases h
        · rename_i hz
          cases h
          exact RunOk.same hh (by rw [vN_run, run_fieldAt_own hi hf hz]; rfl) ⟨b, hb, rfl, hnr⟩
      · cases h
    · cases h
  · rename_i ds off
    split at h
    · rename_i i hi
      split at h
      · rename_i o z ag hf
        split at h
        · cases h
        · rename_i hz
          cases h
          generalize hpd : D.ptr ds off = pd at hx
          cases hx with
          | ptr hl hv h1 hk =>
            cases hpd
            refine RunOk.same hh (by rw [vN_run, run_fieldAt_own hi hf hz]; rfl) ?_
            have := Rep.ptr (K := g.K) (off := off + o) hl hv h1 hk
            rw [← Nat.add_assoc] at this
            exact this
          | _ => cases hpd
      · cases h
    · cases h
  · cases h
def aPart (P : Program) (t : TypeId) (f : Nat) : SV → Option Res
  | .agg cs => match TI P t with
    | some i => match i.fs[f]? with
      | some (o, z, true) => if z = 0 then none else if o + z ≤ cs.length then some (Res.pure (.agg ((cs.drop o).take z))) else none
      | some (o, z, false) => if z = 0 then none else match cs[o]? with
        | some c => some (Res.pure (.c c))
        | none => none
      | none => none
    | none => none
  | _ => none
theorem ok_part {P : Program} {W0 : Fr} {K0 : Know} {g : G} {H : Hp} {w : World} {r : Res} {t : TypeId} {f : Nat} {x : SV} {v : Value} (hh : RelH W0 K0 g H w) (hx : RepS g H x v) (h : aPart P t f x = some r) :
    RunOk P W0 K0 (vN (Instr.field t v f)) g H w r := by
  unfold aPart at h
  split at h
  · rename_i cs
    obtain ⟨vs, rfl, hr, h1⟩ := hx
    split at h
    · rename_i i hi
      obtain ⟨u, j, zz, hu, hj, hzz, rfl⟩ := TI_spec hi
      split at h
      · rename_i o z hf
        split at h
        · cases h
        · rename_i hz
          split at h
          · rename_i hlen
            cases h
            obtain ⟨fs, fd, rfl, hfd, hx⟩ := fsD_spec hf
            simp only [Prod.mk.injEq] at hx
            obtain ⟨rfl, rfl, hag⟩ := hx
            obtain ⟨k, ud, hinf, hun, hk⟩ := fszD_spec hz
            rw [hun] at hag
            simp at hag
            have hlen' := hr.1
            refine RunOk.same hh (v := .agg ((vs.drop fd.offset).take (fszD P fd.type)).toArray) ?_ ⟨_, rfl, ⟨by simp [hr.1], fun k c v hk hv => ?_⟩, fun u hu => h1 u (List.mem_of_mem_drop (List.mem_of_mem_take hu))⟩
            · rw [vN_run]
              unfold Instr.field
              simp only [Sem.run_bind, run_underlying hu, Result.andThen_ok, hfd]
              simp only [asAgg, part, Sem.run_bind, Sem.run_pure, Result.andThen_ok, run_isAgg hun, ← hag, if_true, run_sizeOf hinf]
              congr 3
              apply Array.ext'
              simp [hk, List.extract_eq_take_drop]
            · rw [List.getElem?_take] at hk hv
              split at hk
              · rename_i hkl
                rw [if_pos hkl] at hv
                rw [List.getElem?_drop] at hk hv
                exact hr.2 _ _ _ hk hv
              · cases hk
          · cases h
      · rename_i o z hf
        split at h
        · cases h
        · rename_i hz
          split at h
          · rename_i c hcc
            cases h
            obtain ⟨fs, fd, rfl, hfd, hx⟩ := fsD_spec hf
            simp only [Prod.mk.injEq] at hx
            obtain ⟨rfl, rfl, hag⟩ := hx
            obtain ⟨k, ud, hinf, hun, hk⟩ := fszD_spec hz
            rw [hun] at hag
            simp at hag
            have hlt : fd.offset < vs.length := by have := (List.getElem?_eq_some_iff.1 hcc).1; have := hr.1; omega
            refine RunOk.same hh (v := vs[fd.offset]) ?_ (hr.2 _ c _ hcc (List.getElem?_eq_getElem hlt))
            rw [vN_run]
            unfold Instr.field
            simp only [Sem.run_bind, run_underlying hu, Result.andThen_ok, hfd]
            simp only [asAgg, part, Sem.run_bind, Sem.run_pure, Result.andThen_ok, run_isAgg hun, hag]
            simp [List.getElem?_eq_getElem hlt]
          · cases h
      · cases h
    · cases h
  · cases h
end Go.Proofs.YticbdcpdooahjaaDoor
