/- The abstract machine: regions, those that draw their order among them. -/
import Derived.Test.YticbdcpdooahjaaDoorAbsH
import Derived.Tactics
namespace Go.Proofs.YticbdcpdooahjaaDoor
open Go Go.RowKit
set_option linter.unusedVariables false
set_option linter.unusedSimpArgs false
theorem DefsRel.mono {g g' : G} {H H' : Hp} (hle : GLe g H g' H') (ho : ∀ id o, H id = some (.obj o) → H' id = some (.obj o)) : ∀ {l : List Nat} {ds : List Deferred}, DefsRel g H l ds → DefsRel g' H' l ds
  | [], [], h => h
  | id :: ids, d :: ds, ⟨⟨b, hb, hd⟩, hH, h⟩ => by
    obtain ⟨b', hb', he, _⟩ := hle (.own id 0) (.pointer (some ⟨b, 0, none⟩)) ⟨b, hb, rfl, by rw [hH]; rfl⟩
    simp only [Value.pointer.injEq, Option.some.injEq, Addr.mk.injEq, and_true] at he
    exact ⟨⟨b', hb', by rw [hd, he]⟩, ho _ _ hH, DefsRel.mono hle ho h⟩
theorem sc_up {P : Program} {s : Sem Value} {r : Res} (h : sc P s = some r) : r.up = none := by
  unfold sc at h
  (repeat' split at h) <;> first | (cases h; rfl) | cases h
theorem aLoad_up {P : Program} {t : TypeId} {H : Hp} {x : SV} {r : Res} (h : aLoad P t H x = some r) : r.up = none := by
  unfold aLoad at h
  (repeat' split at h) <;> first | (cases h; rfl) | cases h
theorem aField_up {P : Program} {s : TypeId} {f : Nat} {x : SV} {r : Res} (h : aField P s f x = some r) : r.up = none := by
  unfold aField at h
  (repeat' split at h) <;> first | (cases h; rfl) | cases h
theorem aPart_up {P : Program} {s : TypeId} {f : Nat} {x : SV} {r : Res} (h : aPart P s f x = some r) : r.up = none := by
  unfold aPart at h
  (repeat' split at h) <;> first | (cases h; rfl) | cases h
theorem aIndexAddr_up {P : Program} {t : TypeId} {x i : SV} {r : Res} (h : aIndexAddr P t x i = some r) : r.up = none := by
  unfold aIndexAddr at h
  (repeat' split at h) <;> first | (cases h; rfl) | cases h
theorem aLen_up {P : Program} {t : TypeId} {x : SV} {r : Res} (h : aLen P t x = some r) : r.up = none := by
  unfold aLen at h
  (repeat' split at h) <;> first | (cases h; rfl) | cases h
theorem aSlice_up {P : Program} {t : TypeId} {x : SV} {lo hi mx : Option SV} {r : Res} (h : aSlice P t x lo hi mx = some r) : r.up = none := by
  unfold aSlice at h
  (repeat' split at h) <;> first | (cases h; rfl) | cases h
theorem aBuild_up {P : Program} {t : TypeId} {ps : List (Nat × SV)} {r : Res} (h : aBuild P t ps = some r) : r.up = none := by
  unfold aBuild at h
  (repeat' split at h) <;> first | (cases h; rfl) | cases h
theorem aBuildSlice_up {P : Program} {t : TypeId} {n : Nat} {ps : List (Nat × SV)} {r : Res} (h : aBuildSlice P t n ps = some r) : r.up = none := by
  unfold aBuildSlice at h
  (repeat' split at h) <;> first | (cases h; rfl) | cases h
theorem aMakeFunc_up {H : Hp} {fn : Fn} {first caps : List SV} {r : Res} (h : aMakeFunc H fn first caps = some r) : r.up = none := by
  unfold aMakeFunc at h
  (repeat' split at h) <;> first | (cases h; rfl) | cases h
theorem aExtract_up {x : SV} {i : Nat} {r : Res} (h : aExtract x i = some r) : r.up = none := by
  unfold aExtract at h
  (repeat' split at h) <;> first | (cases h; rfl) | cases h
theorem aBin_up {P : Program} {op : BinOp} {t : TypeId} {x y : Operand} {sx sy : SV} {r : Res} (h : aBin P op t x y sx sy = some r) : r.up = none := by
  unfold aBin at h
  split at h
  · exact sc_up h
  · (repeat' split at h) <;> first | (cases h; rfl) | cases h
theorem abuiltin_up {P : Program} {b : Builtin} {ts : List TypeId} {ty : TypeId} {xs : List SV} {H : Hp} {nx tot : Nat} {r : Res} (h : abuiltin P b ts ty xs H nx = some (r, tot)) {k : Nat} {he : HE} (hu : r.up = some (k, he)) {o : Obj} (ho : H k = some (.obj o)) : False := by
  unfold abuiltin at h
  split at h
  · split at h
    · split at h
      · rename_i r' hr
        cases h
        rw [aLen_up hr] at hu; cases hu
      · cases h
    · cases h
  · split at h
    · split at h
      · split at h
        · split at h
          · unfold aAppend at h
            (repeat' split at h) <;> first | (cases h; done) | (cases h; cases hu; simp_all)
          · cases h
        · cases h
      · cases h
    · cases h
  · split at h
    · split at h
      · rename_i r' hr
        cases h
        rw [sc_up hr] at hu; cases hu
      · cases h
    · cases h
  · split at h
    · split at h
      · rename_i r' hr
        cases h
        rw [sc_up hr] at hu; cases hu
      · cases h
    · cases h
  · cases h
theorem aop_up {P : Program} {op : Op} {ρ : Operand → SV} {H : Hp} {nx : Nat} {r : Res} (h : aop P op ρ H nx = some r) {k : Nat} {he : HE} (hu : r.up = some (k, he)) {o : Obj} (ho : H k = some (.obj o)) : False := by
  cases op <;> simp only [aop] at h
  case alloc t =>
    unfold aAlloc at h
    split at h
    · rename_i hn
      split at h
      · split at h
        · cases h; cases hu; rw [hn] at ho; cases ho
        · cases h
      · cases h
    · cases h
  case makeSlice t x y =>
    unfold aMakeSlice at h
    split at h
    · split at h
      · cases h
      · rename_i hn
        split at h
        · split at h
          · split at h
            · cases h; cases hu; rw [hn] at ho; cases ho
            · split at h
              · cases h; cases hu; rw [hn] at ho; cases ho
              · cases h
          · cases h
        · cases h
    · cases h
  case box t x =>
    unfold aBox at h
    split at h
    · rename_i hn
      split at h
      · cases h; cases hu; rw [hn] at ho; cases ho
      · cases h
    · cases h
  case store t a x =>
    unfold aStore at h
    split at h
    · split at h
      · rename_i hc
        split at h
        · split at h
          · cases h; cases hu; rw [hc] at ho; cases ho
          · cases h
        · cases h
      · cases h
    · cases h
  case makeInterface t x =>
    unfold aIface at h
    split at h
    · split at h
      · cases h
      · split at h
        · split at h
          · cases h; cases hu
          · rename_i hc
            split at h
            · cases h; cases hu; rw [hc] at ho; cases ho
            · cases h
          · cases h
        · split at h
          · cases h; cases hu
          · cases h
        · split at h
          · cases h; cases hu
          · cases h
    · cases h
  case build t ps => rw [aBuild_up h] at hu; cases hu
  case buildSlice t n ps => rw [aBuildSlice_up h] at hu; cases hu
  case load t a => rw [aLoad_up h] at hu; cases hu
  case binOp op t x y z => rw [aBin_up h] at hu; cases hu
  case makeFunc fn first caps => rw [aMakeFunc_up h] at hu; cases hu
  case slice t x lo hi mx => rw [aSlice_up h] at hu; cases hu
  case fieldAddr s x f => rw [aField_up h] at hu; cases hu
  case field s x f => rw [aPart_up h] at hu; cases hu
  case indexAddr t x i => rw [aIndexAddr_up h] at hu; cases hu
  case extract x i => rw [aExtract_up h] at hu; cases hu
  all_goals first
    | (cases h; done)
    | (cases h; cases hu; done)
    | (split at h <;> first | (cases h; done) | (cases h; cases hu; done) | (rw [sc_up h] at hu; cases hu))
theorem up_obj {P : Program} {o : Oper} {ρ : Operand → SV} {H : Hp} {nx : Nat} {r : Res} (h : AStep P o ρ H nx r) (id : Nat) (ob : Obj) (ho : H id = some (.obj ob)) : hup H r.up id = some (.obj ob) := by
  have key : ∀ k he, r.up = some (k, he) → k ≠ id := by
    rintro k he hu rfl
    unfold AStep astep at h
    split at h
    · split at h
      · split at h
        · rename_i b hb r' tot hr
          obtain ⟨_, rfl⟩ := h
          exact abuiltin_up hr hu ho
        · exact h.elim
      · split at h
        · split at h
          · rcases h with ⟨y, _, rfl⟩ | ⟨e, sz, xs, _, hn, rfl⟩
            · cases hu
            · cases hu; rw [hn] at ho; cases ho
          · exact h.elim
        · exact h.elim
      · exact h.elim
    · split at h
      · rename_i r' hr
        subst h
        exact aop_up hr hu ho
      · exact h.elim
  cases hu : r.up with
  | none => exact ho
  | some q =>
    obtain ⟨k, he⟩ := q
    show upd H k (some he) id = _
    rw [upd_ne _ _ (Ne.symm (key k he hu))]; exact ho
def dstOk (σ : St) (o : Oper) : Prop := match o.dst with
  | some d => d < σ.sz
  | none => True
def putE (env : Nat → SV) (d : Option Nat) (x : SV) : Nat → SV := match d with
  | some d => upd env d x
  | none => env
def St.put (σ : St) (dst : Option Nat) (v : SV) : St := { σ with env := putE σ.env dst v }
def St.step (σ : St) (o : Oper) (r : Res) : St := { env := (σ.put o.dst r.v).env, H := hup σ.H r.up, nx := if r.al then σ.nx + 1 else σ.nx, sz := σ.sz, fx := σ.fx }
def St.skip (σ : St) (o : Oper) : St := σ.put o.dst (.c (.d (.val undef)))
structure Foot where
  fp : List Nat
  wr : Option Nat
def guardB (all : List Oper) (env : Nat → SV) (o : Oper) : Option Bool :=
  match o.guard with
  | none => some true
  | some (j, want) => match all[j]? with
    | some oj => match oj.dst with
      | some d => match (env d).exact with
        | some (.bool b) => some (b == want)
        | some _ => some false
        | none => none
      | none => none
    | none => none
def aops (P : Program) (all : List Oper) : List Oper → St → List Foot → (St → List Foot → Prop) → Prop
  | [], σ, tr, k => k σ tr.reverse
  | o :: os, σ, tr, k => match guardB all σ.env o with
    | none => False
    | some t => (t = true → astep P o (evalS σ.env) σ.H σ.nx (fun r => dstOk σ o ∧ aops P all os (σ.step o r) (⟨r.fp, r.up.map (·.1)⟩ :: tr) k)) ∧
        (t = false → dstOk σ o ∧ aops P all os (σ.skip o) (⟨[], none⟩ :: tr) k)
theorem put_getD (a : Act) (d : Option Nat) (v : Value) (t : Nat) : (a.put d v).tmps.getD t undef = if d = some t ∧ t < a.tmps.size then v else a.tmps.getD t undef := by
  cases d with
  | none => simp [Act.put]
  | some d =>
    simp only [Act.put, Array.getD_eq_getD_getElem?, Array.getElem?_setIfInBounds, Option.some.injEq]
    by_cases h : d = t
    · subst h
      by_cases h2 : d < a.tmps.size
      · simp [h2]
      · simp [h2]
    · simp [h]
theorem put_size (a : Act) (d : Option Nat) (v : Value) : (a.put d v).tmps.size = a.tmps.size := by cases d <;> simp [Act.put]
theorem put_def (a : Act) (d : Option Nat) (v : Value) : (a.put d v).defers = a.defers := by cases d <;> rfl
/-- What a frame holds behind a put. -/
theorem env_put {g : G} {H : Hp} {env : Nat → SV} {a : Act} {d : Option Nat} {x : SV} {v : Value} {n : Nat} (h : ∀ t, RepS g H (env t) (a.tmps.getD t undef)) (hx : RepS g H x v) (hs : a.tmps.size = n) (hd : ∀ t, d = some t → t < n) (t : Nat) :
    RepS g H (putE env d x t) ((a.put d v).tmps.getD t undef) := by
  rw [put_getD]
  cases d with
  | none => rw [if_neg (by simp)]; exact h t
  | some d =>
    by_cases ht : d = t
    · subst ht
      rw [if_pos ⟨rfl, by rw [hs]; exact hd d rfl⟩, show putE env (some d) x d = x from upd_same _ _ _]; exact hx
    · rw [if_neg (fun h => ht (by simpa using h.1)), show putE env (some d) x t = env t from upd_ne _ _ (Ne.symm ht)]; exact h t
theorem step_rel {P : Program} {W0 : Fr} {K0 : Know} {g : G} {σ : St} {a : Act} {w : World} {o : Oper} {r : Res} (h : Rel W0 K0 g σ a w) (hs : AStep P o (evalS σ.env) σ.H σ.nx r) (hd : dstOk σ o) (ro : Option Nat) (Q : Exit → Act → World → Prop) :
    o.wpIn (fen ro) 0 P a w (fun a' w' => ∃ g', Rel W0 K0 g' (σ.step o r) a' w') Q := by
  refine Oper.wpIn_mono ?_ (step_sound h.mem (fun x _ => evalS_rep h x) hs ro Q)
  rintro a' w' ⟨v, g', rfl, hv, hm, hle⟩
  refine ⟨g', hm, fun t => ?_, by rw [put_size]; exact h.size, by rw [put_def]; exact h.defers.mono hle (up_obj hs), h.ln, h.rd, h.nodup, h.lt⟩
  exact env_put (d := o.dst) (x := r.v) (v := v) (fun t => (h.env t).mono hle) hv h.size (fun t ht => by have := hd; unfold dstOk at this; rw [ht] at this; exact this) t
theorem skip_rel {W0 : Fr} {K0 : Know} {g : G} {σ : St} {a : Act} {w : World} {o : Oper} (h : Rel W0 K0 g σ a w) (hd : dstOk σ o) : Rel W0 K0 g (σ.skip o) (a.put o.dst undef) w := by
  refine ⟨h.mem, fun t => ?_, by rw [put_size]; exact h.size, by rw [put_def]; exact h.defers, h.ln, h.rd, h.nodup, h.lt⟩
  exact env_put (x := .c (.d (.val undef))) (v := undef) (fun t => h.env t) (Rep.val undef) h.size (fun t ht => by have := hd; unfold dstOk at this; rw [ht] at this; exact this) t
theorem guard_wanted {g : G} {H : Hp} {env : Nat → SV} {a : Act} {all : List Oper} {o : Oper} {t : Bool} (h : ∀ j want oj d, o.guard = some (j, want) → all[j]? = some oj → oj.dst = some d → RepS g H (env d) (a.tmps.getD d undef)) (hg : guardB all env o = some t) : Region.wanted o (yielded all.toArray a.tmps) = t := by
  unfold guardB at hg
  unfold Region.wanted
  cases hgd : o.guard with
  | none => rw [hgd] at hg; cases hg; rfl
  | some q =>
    obtain ⟨j, want⟩ := q
    rw [hgd] at hg
    simp only at hg ⊢
    cases hj : all[j]? with
    | none => rw [hj] at hg; cases hg
    | some oj =>
      rw [hj] at hg
      simp only at hg
      cases hd : oj.dst with
      | none => rw [hd] at hg; cases hg
      | some d =>
        rw [hd] at hg
        simp only at hg
        have hr := h j want oj d hgd hj hd
        have hy : yielded all.toArray a.tmps j = match a.tmps[d]? with | some (.bool b) => some b | _ => none := by
          unfold yielded
          simp [hj, hd]
          cases a.tmps[d]? <;> rfl
        rw [hy]
        rw [Array.getD_eq_getD_getElem?] at hr
        cases hx : (env d).exact with
        | none => rw [hx] at hg; cases hg
        | some v =>
          rw [hx] at hg
          have hv := SV.exact_rep hr hx
          cases ht : a.tmps[d]? with
          | none =>
            rw [ht] at hv
            simp only [Option.getD_none] at hv
            subst hv
            simp only [undef] at hg
            cases hg
            simp
          | some u =>
            rw [ht] at hv
            simp only [Option.getD_some] at hv
            subst hv
            cases u <;> simp only at hg <;> cases hg <;> first | rfl | simp
theorem aops_list {P : Program} {W0 : Fr} {K0 : Know} {all : List Oper} {Q : Exit → Act → World → Prop} {k : St → List Foot → Prop} {ro : Option Nat} (hk : ∀ g σ tr a w, k σ tr → Rel W0 K0 g σ a w → Q .normal a w) :
    ∀ (l : List Oper) (g : G) (σ : St) (tr : List Foot) (a : Act) (w : World), aops P all l σ tr k → Rel W0 K0 g σ a w → wpListIn (fen ro) 0 P all.toArray Q l a w
  | [], g, σ, tr, a, w, h, hr => hk g σ _ a w h hr
  | o :: os, g, σ, tr, a, w, h, hr => by
    simp only [aops] at h
    split at h
    · exact h.elim
    · rename_i t ht
      have hw := guard_wanted (a := a) (fun _ _ _ d _ _ _ => hr.env d) ht
      unfold wpListIn
      rw [hw]
      cases t with
      | true =>
        obtain ⟨r, hr1, hd, hrest⟩ := astep_get (h.1 rfl)
        simp only [if_true]
        refine Oper.wpIn_mono ?_ (step_rel hr hr1 hd ro Q)
        rintro a' w' ⟨g', hr'⟩
        exact aops_list hk os g' _ _ a' w' hrest hr'
      | false =>
        obtain ⟨hd, hrest⟩ := h.2 rfl
        simp only [Bool.false_eq_true, if_false]
        exact ⟨fun _ _ => trivial, aops_list hk os g _ _ _ w hrest (skip_rel hr hd)⟩
end Go.Proofs.YticbdcpdooahjaaDoor
