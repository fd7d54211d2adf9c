/- An abstract machine for bodies of Go functions, without addresses: plain data, slots, boxes. This text: the data, and what it means that a value of the model stands for a datum. -/
import Derived.Below
import Derived.Orders
import Derived.Laws.Append
import Derived.Laws.AppendOwn
import Derived.Laws.CopyRow
import Derived.Laws.Tables
import Derived.Laws.Cells
import Derived.Laws.Entries
import Derived.RangeFuncRecord
import Derived.RangeFuncLeaves
import Derived.RangeFuncIn
import Derived.OrdersIn
import Derived.TacticsIn
namespace Go.Proofs.YticbdcpdooahjaaDoor
open Go Go.RowKit
set_option linter.unusedVariables false
set_option linter.unusedSimpArgs false
/-- Plain data: no address, no memory. -/
inductive D where
  | val (v : Value)
  | lst (sz : Nat) (xs : List (List D))
  | ptr (cs : List D) (off : Nat)
  | iface (t : TypeId) (x : D)
  | fn (f : Fn) (caps : List D)
  | agg (cs : List D)
  | tup (rs : List D)
instance : Inhabited D := ⟨.val (.bool false)⟩
/-- What is known of cells that nobody writes any more. -/
abbrev Know := Nat → Nat → Option Value
def KLe (K K' : Know) : Prop := ∀ b o v, K b o = some v → K' b o = some v
def Ext (K K' : Know) (n : Nat) : Prop := KLe K K' ∧ ∀ b o, b < n → K' b o = K b o
def KW (K : Know) (w : World) : Prop := ∀ b o v, K b o = some v → w.cell? ⟨b, o, none⟩ = some v
/-- What is known from the start: variables of the library's own. -/
def BaseK : Know := fun b o => if b = 0 ∧ o = 0 then some (.iface 211 (.agg #[.pointer (some ⟨1, 103, none⟩)])) else none
/-- The value v stands for the datum. -/
inductive Rep (K : Know) : D → Value → Prop
  | val (v : Value) : Rep K (.val v) v
  | lst {sz : Nat} {xs : List (List D)} {vs : List Value} {a : Option Addr} {c : Nat} (hs : ∀ x ∈ xs, x.length = sz) (hc : xs.length ≤ c)
      (hl : xs.flatten.length = vs.length) (hv : ∀ (j : Nat) (x : D) (v : Value), xs.flatten[j]? = some x → vs[j]? = some v → Rep K x v) (h1 : ∀ v ∈ vs, v.oneCell' = true)
      (hk : xs ≠ [] → ∃ b off, a = some ⟨b, off, none⟩ ∧ ∀ (j : Nat) v, vs[j]? = some v → K b (off + j) = some v) : Rep K (.lst sz xs) (.slice a xs.length c)
  | ptr {cs : List D} {vs : List Value} {b o off : Nat} (hl : cs.length = vs.length) (hv : ∀ (j : Nat) (x : D) (v : Value), cs[j]? = some x → vs[j]? = some v → Rep K x v) (h1 : ∀ v ∈ vs, v.oneCell' = true)
      (hk : ∀ (j : Nat) v, vs[j]? = some v → K b (o + j) = some v) : Rep K (.ptr cs off) (.pointer (some ⟨b, o + off, none⟩))
  | iface {t : TypeId} {x : D} {v : Value} (h : Rep K x v) : Rep K (.iface t x) (.iface t v)
  | fn {f : Fn} {caps : List D} {vs : List Value} (hl : caps.length = vs.length) (hv : ∀ (j : Nat) (x : D) (v : Value), caps[j]? = some x → vs[j]? = some v → Rep K x v) : Rep K (.fn f caps) (.func f #[] vs.toArray)
  | agg {cs : List D} {vs : List Value} (hl : cs.length = vs.length) (hv : ∀ (j : Nat) (x : D) (v : Value), cs[j]? = some x → vs[j]? = some v → Rep K x v) (h1 : ∀ v ∈ vs, v.oneCell' = true) : Rep K (.agg cs) (.agg vs.toArray)
  | tup {cs : List D} {vs : List Value} (hl : cs.length = vs.length) (hv : ∀ (j : Nat) (x : D) (v : Value), cs[j]? = some x → vs[j]? = some v → Rep K x v) : Rep K (.tup cs) (.tuple vs.toArray)
def RepL (K : Know) (ds : List D) (vs : List Value) : Prop := ds.length = vs.length ∧ ∀ (j : Nat) (x : D) (v : Value), ds[j]? = some x → vs[j]? = some v → Rep K x v
theorem Rep.mono {K K' : Know} (h : KLe K K') {x : D} {v : Value} (r : Rep K x v) : Rep K' x v := by
  induction r with
  | val v => exact .val v
  | lst hs hc hl hv h1 hk ih => exact .lst hs hc hl ih h1 (fun hne => let ⟨b, off, ha, hj⟩ := hk hne; ⟨b, off, ha, fun j v hv => h _ _ _ (hj j v hv)⟩)
  | ptr hl hv h1 hk ih => exact .ptr hl ih h1 (fun j v hj => h _ _ _ (hk j v hj))
  | iface _ ih => exact .iface ih
  | fn hl hv ih => exact .fn hl ih
  | agg hl hv h1 ih => exact .agg hl ih h1
  | tup hl hv ih => exact .tup hl ih
theorem RepL.mono {K K' : Know} (h : KLe K K') {ds : List D} {vs : List Value} (r : RepL K ds vs) : RepL K' ds vs := ⟨r.1, fun j x v hx hv => (r.2 j x v hx hv).mono h⟩
theorem KLe.refl (K : Know) : KLe K K := fun _ _ _ h => h
theorem KLe.trans {K K' K'' : Know} (h : KLe K K') (h' : KLe K' K'') : KLe K K'' := fun _ _ _ x => h' _ _ _ (h _ _ _ x)
theorem Ext.refl (K : Know) (n : Nat) : Ext K K n := ⟨KLe.refl K, fun _ _ _ => rfl⟩
theorem Ext.trans {K K' K'' : Know} {n m : Nat} (h : Ext K K' n) (h' : Ext K' K'' m) (hnm : n ≤ m) : Ext K K'' n :=
  ⟨h.1.trans h'.1, fun b o hb => (h'.2 b o (by omega)).trans (h.2 b o hb)⟩
/-- What is in a slot or in a cell of a box: nothing known; plain data; a pointer into a box; a list to which one may append (with its token); a list without room; a slice of a box; a function with pointers into boxes. -/
inductive Cap where
  | d (x : D)
  | own (id off : Nat)
inductive CV where
  | any
  | d (x : D)
  | own (id off : Nat)
  | app (τ sz : Nat) (xs : List (List D))
  | full (sz : Nat) (xs : List (List D))
  | view (id sz off len : Nat)
  | clo (f : Fn) (caps : List Cap)
  | yld (id : Nat)
inductive SV where
  | c (x : CV)
  | agg (cs : List CV)
/-- A box: cells that may be written; cells that are written no more; the room behind a list of n elements. -/
inductive HE where
  | cells (cs : List CV)
  | froz (ds : List D)
  | row (e sz n : Nat)
  | obj (o : Obj)
abbrev Hp := Nat → Option HE
def isRow : Option HE → Bool
  | some (.row _ _ _) => true
  | _ => false
structure G where
  K : Know
  β : Nat → Option Nat
  cap : Nat → Nat
def Cap.ids : Cap → List Nat
  | .d _ => []
  | .own id _ => [id]
def CV.ids : CV → List Nat
  | .own id _ => [id]
  | .app τ _ _ => [τ]
  | .view id _ _ _ => [id]
  | .clo _ caps => caps.flatMap Cap.ids
  | .yld id => [id]
  | _ => []
def RepCap (g : G) (H : Hp) : Cap → Value → Prop
  | .d x, v => Rep g.K x v
  | .own id off, v => ∃ b, g.β id = some b ∧ v = .pointer (some ⟨b, off, none⟩) ∧ isRow (H id) = false
def RepC (g : G) (H : Hp) : CV → Value → Prop
  | .any, _ => True
  | .d x, v => Rep g.K x v
  | .own id off, v => ∃ b, g.β id = some b ∧ v = .pointer (some ⟨b, off, none⟩) ∧ isRow (H id) = false
  | .app τ sz xs, v => Rep g.K (.lst sz xs) v ∧ ∃ e n, H τ = some (.row e sz n) ∧ xs.length ≤ n ∧
      (xs.length = n → ((∃ a, v = .slice a xs.length xs.length) ∨ ∃ b, g.β τ = some b ∧ v = .slice (some ⟨b, 0, none⟩) xs.length (g.cap τ)))
  | .full sz xs, v => Rep g.K (.lst sz xs) v ∧ ∃ a, v = .slice a xs.length xs.length
  | .view id sz off len, v => ∃ b c, g.β id = some b ∧ v = .slice (some ⟨b, off, none⟩) len c ∧ len ≤ c ∧ isRow (H id) = false
  | .clo f caps, v => ∃ vs : List Value, v = .func f #[] vs.toArray ∧ caps.length = vs.length ∧ ∀ (j : Nat) (c : Cap) (u : Value), caps[j]? = some c → vs[j]? = some u → RepCap g H c u
  | .yld id, v => ∃ b, g.β id = some b ∧ v = .func (.yield b) #[] #[] ∧ isRow (H id) = false
def RepCs (g : G) (H : Hp) (cs : List CV) (vs : List Value) : Prop := cs.length = vs.length ∧ ∀ (j : Nat) (x : CV) (v : Value), cs[j]? = some x → vs[j]? = some v → RepC g H x v
def RepS (g : G) (H : Hp) : SV → Value → Prop
  | .c x, v => RepC g H x v
  | .agg cs, v => ∃ vs : List Value, v = .agg vs.toArray ∧ RepCs g H cs vs ∧ ∀ u ∈ vs, u.oneCell' = true
def HoldsE (g : G) (H : Hp) (w : World) (id : Nat) : HE → Prop
  | .cells cs => ∃ b vs t, g.β id = some b ∧ w.heap[b]? = some (.cells (List.toArray vs) t (0, 0)) ∧ RepCs g H cs vs ∧ (∀ u ∈ vs, u.oneCell' = true) ∧ ∀ o, g.K b o = none
  | .froz ds => ∃ b vs, g.β id = some b ∧ RepL g.K ds vs ∧ (∀ u ∈ vs, u.oneCell' = true) ∧ ∀ (j : Nat) v, vs[j]? = some v → g.K b j = some v
  | .obj o => ∃ b, g.β id = some b ∧ w.heap[b]? = some o ∧ ∀ o', g.K b o' = none
  | .row e sz n => ∀ b, g.β id = some b → ∃ cur, w.heap[b]? = some (.cells cur e (0, 0)) ∧ cur.size = g.cap id * sz ∧ n ≤ g.cap id ∧ ∀ o, n * sz ≤ o → g.K b o = none
/-- How a call began: the world; the blocks that were lent to it; the boxes that were lent, by number, and what they were. -/
structure Fr where
  W : World
  S : Nat → Prop
  ln : List Nat
  g : G
  H : Hp
  ro : Option Nat
def Fr.mine (F : Fr) (b : Nat) : Prop := F.W.heap.size ≤ b ∨ F.S b
structure BelowF (F : Fr) (w : World) : Prop where
  os : w.os = F.W.os
  tape : w.tape = F.W.tape
  output : w.output = F.W.output
  size : F.W.heap.size ≤ w.heap.size
  block : ∀ k, ¬ F.mine k → w.heap[k]? = F.W.heap[k]?
def ExtF (F : Fr) (K K' : Know) : Prop := KLe K K' ∧ ∀ b o, ¬ F.mine b → K' b o = K b o
theorem Fr.lt {F : Fr} {k : Nat} (h : ¬ F.mine k) : k < F.W.heap.size := by unfold Fr.mine at h; omega
theorem Fr.new {F : Fr} {k : Nat} (h : F.W.heap.size ≤ k) : F.mine k := .inl h
theorem Fr.ne {F : Fr} {k b : Nat} (h : ¬ F.mine k) (hb : F.mine b) : k ≠ b := fun e => h (e ▸ hb)
theorem BelowF.trans {F : Fr} {w w' : World} (h : BelowF F w) (hb : Below w.heap.size w w') : BelowF F w' :=
  ⟨hb.os.trans h.os, hb.tape.trans h.tape, hb.output.trans h.output, Nat.le_trans h.size hb.size, fun k hk => (hb.block k (Nat.lt_of_lt_of_le (Fr.lt hk) h.size)).trans (h.block k hk)⟩
theorem ExtF.trans {F : Fr} {K K' K'' : Know} {n : Nat} (h : ExtF F K K') (h' : Ext K' K'' n) (hn : F.W.heap.size ≤ n) : ExtF F K K'' :=
  ⟨h.1.trans h'.1, fun b o hb => (h'.2 b o (Nat.lt_of_lt_of_le (Fr.lt hb) hn)).trans (h.2 b o hb)⟩
/-- Nothing is lent. -/
def Fr.of (w : World) (K : Know) : Fr := ⟨w, fun _ => False, [], ⟨K, fun _ => none, fun _ => 0⟩, fun _ => none, none⟩
theorem Fr.of_mine {w : World} {K : Know} {b : Nat} (h : (Fr.of w K).mine b) : w.heap.size ≤ b := h.elim id False.elim
theorem Fr.of_below (w : World) (K : Know) : BelowF (Fr.of w K) w := ⟨rfl, rfl, rfl, Nat.le_refl _, fun _ _ => rfl⟩
theorem Fr.of_ext (w : World) (K : Know) : ExtF (Fr.of w K) K K := ⟨KLe.refl _, fun _ _ _ => rfl⟩
theorem BelowF.of {w w' : World} {K : Know} (h : BelowF (Fr.of w K) w') : Below w.heap.size w w' := ⟨h.os, h.tape, h.output, h.size, fun k hk => h.block k (fun h => by have := Fr.of_mine h; omega)⟩
theorem ExtF.of {w : World} {K K' K'' : Know} (h : ExtF (Fr.of w K) K' K'') : Ext K' K'' w.heap.size := ⟨h.1, fun b o hb => h.2 b o (fun h => by have := Fr.of_mine h; omega)⟩
/-- What was lent still stands for what it did. -/
def GLeN (F : Fr) (g : G) (H : Hp) : Prop := ∀ x v, (∀ i ∈ CV.ids x, i ∈ F.ln) → RepC F.g F.H x v → RepC g H x v
/-- The memory, as the machine has it: W0 how the call began and K0 what was known then. -/
structure RelH (W0 : Fr) (K0 : Know) (g : G) (H : Hp) (w : World) : Prop where
  below : BelowF W0 w
  ext : ExtF W0 K0 g.K
  kw : KW g.K w
  holds : ∀ id he, H id = some he → HoldsE g H w id he
  base : ∀ id b, g.β id = some b → W0.mine b
  dom : ∀ id, H id = none → g.β id = none
  sep : ∀ i j b, g.β i = some b → g.β j = some b → i = j
  frozlt : ∀ id b, g.β id = some b → b < w.heap.size
  glob : KLe BaseK K0
  lent : GLeN W0 g H
/-- Nothing that stood for something stops doing so. -/
def GLe (g : G) (H : Hp) (g' : G) (H' : Hp) : Prop := ∀ x v, RepC g H x v → RepC g' H' x v
theorem GLe.refl (g : G) (H : Hp) : GLe g H g H := fun _ _ h => h
theorem GLe.trans {g g' g'' : G} {H H' H'' : Hp} (h : GLe g H g' H') (h' : GLe g' H' g'' H'') : GLe g H g'' H'' := fun _ _ x => h' _ _ (h _ _ x)
theorem Fr.of_lent (w : World) (K : Know) : GLeN (Fr.of w K) ⟨K, fun _ => none, fun _ => 0⟩ (fun _ => none) := fun _ _ _ h => h
theorem clo_mono {g g' : G} {H H' : Hp} {f : Fn} {caps : List Cap} {v : Value} (r : RepC g H (.clo f caps) v) (hK : KLe g.K g'.K) (ho : ∀ id off v, RepC g H (.own id off) v → RepC g' H' (.own id off) v) : RepC g' H' (.clo f caps) v := by
  obtain ⟨vs, hv, hl, hc⟩ := r
  refine ⟨vs, hv, hl, fun j c u hj hu => ?_⟩
  have := hc j c u hj hu
  cases c with
  | d x => exact Rep.mono hK this
  | own id off => exact ho id off u this
theorem yld_mono {g g' : G} {H H' : Hp} {id : Nat} {v : Value} (r : RepC g H (.yld id) v) (ho : ∀ id off v, RepC g H (.own id off) v → RepC g' H' (.own id off) v) : RepC g' H' (.yld id) v := by
  obtain ⟨b, hb, hv, hr⟩ := r
  obtain ⟨b', hb', he, hr'⟩ := ho id 0 (.pointer (some ⟨b, 0, none⟩)) ⟨b, hb, rfl, hr⟩
  simp only [Value.pointer.injEq, Option.some.injEq, Addr.mk.injEq, and_true] at he
  exact ⟨b', hb', by rw [hv, he], hr'⟩
theorem GLeN.trans {F : Fr} {g g' : G} {H H' : Hp} (h : GLeN F g H) (h' : GLe g H g' H') : GLeN F g' H' := fun x v hi r => h' _ _ (h x v hi r)
theorem RepCs.mono {g g' : G} {H H' : Hp} (h : GLe g H g' H') {cs : List CV} {vs : List Value} (r : RepCs g H cs vs) : RepCs g' H' cs vs := ⟨r.1, fun j x v hx hv => h _ _ (r.2 j x v hx hv)⟩
theorem RepS.mono {g g' : G} {H H' : Hp} (h : GLe g H g' H') {x : SV} {v : Value} (r : RepS g H x v) : RepS g' H' x v := by
  cases x with
  | c x => exact h _ _ r
  | agg cs => obtain ⟨vs, hv, hr, h1⟩ := r; exact ⟨vs, hv, hr.mono h, h1⟩
/-- What stands beside: the boxes that were lent; the blocks of deferred calls, by their boxes; is it a round of a loop over a function? -/
structure Fx where
  lent : List Nat
  dfs : List Nat
  rd : Bool
  lt : Option (G × Hp)
instance (n : Nat) : OfNat Fx n := ⟨⟨[], [], false, none⟩⟩
abbrev dfO : HE := .obj (.deferred (some []))
def DefsRel (g : G) (H : Hp) : List Nat → List Deferred → Prop
  | [], [] => True
  | id :: ids, d :: ds => (∃ b, g.β id = some b ∧ d = { target := .collected b, args := #[] }) ∧ H id = some dfO ∧ DefsRel g H ids ds
  | _, _ => False
/-- The frame: slots, boxes, the next box's number, how many slots there are. -/
structure St where
  env : Nat → SV
  H : Hp
  nx : Nat
  sz : Nat
  fx : Fx
structure Rel (W0 : Fr) (K0 : Know) (g : G) (σ : St) (a : Act) (w : World) : Prop where
  mem : RelH W0 K0 g σ.H w
  env : ∀ t, RepS g σ.H (σ.env t) (a.tmps.getD t undef)
  size : a.tmps.size = σ.sz
  defers : DefsRel g σ.H σ.fx.dfs a.defers
  ln : W0.ln = σ.fx.lent
  rd : W0.ro.isSome = σ.fx.rd
  nodup : σ.fx.dfs.Nodup
  lt : ∀ q, σ.fx.lt = some q → W0.g = q.1 ∧ W0.H = q.2
def upd {α : Type} (f : Nat → α) (t : Nat) (v : α) : Nat → α := fun i => if i = t then v else f i
theorem upd_same {α : Type} (f : Nat → α) (t : Nat) (v : α) : upd f t v t = v := by simp [upd]
theorem upd_ne {α : Type} (f : Nat → α) {t i : Nat} (v : α) (h : i ≠ t) : upd f t v i = f i := by simp [upd, h]
def ofV : Value → SV
  | .agg cs => if cs.all (·.oneCell') then .agg (cs.toList.map fun v => .d (.val v)) else .c .any
  | .tuple _ => .c .any
  | v => .c (.d (.val v))
def SV.ofD : D → SV
  | .agg cs => .agg (cs.map .d)
  | x => .c (.d x)
def evalS (env : Nat → SV) : Operand → SV
  | .tmp t => env t
  | .const v => ofV v
  | .global g => .c (.d (.val (.pointer (some ⟨g, 0, none⟩))))
  | .func f => .c (.d (.fn (.func f) []))
theorem ofV_rep (g : G) (H : Hp) (v : Value) : RepS g H (ofV v) v := by
  unfold ofV
  split
  · rename_i cs
    split
    · rename_i h
      refine ⟨cs.toList, by simp, ⟨by simp, fun j x v hx hv => ?_⟩, fun u hu => ?_⟩
      · simp only [List.getElem?_map, hv, Option.map_some, Option.some.injEq] at hx
        subst hx; exact Rep.val v
      · simp only [Array.all_eq_true'] at h
        exact h u (by simpa using hu)
    · trivial
  · trivial
  · exact Rep.val _
theorem ofD_rep {K : Know} {x : D} {v : Value} (h : Rep K x v) (g : G) (H : Hp) (hk : g.K = K) : RepS g H (SV.ofD x) v := by
  subst hk
  cases h with
  | agg hl hv h1 =>
    refine ⟨_, rfl, ⟨by simpa using hl, fun j x v hx hv' => ?_⟩, h1⟩
    simp only [List.getElem?_map, Option.map_eq_some_iff] at hx
    obtain ⟨y, hy, rfl⟩ := hx
    exact hv j y v hy hv'
  | val v => exact Rep.val v
  | lst hs hc hl hv h1 hk => exact Rep.lst hs hc hl hv h1 hk
  | ptr hl hv h1 hk => exact Rep.ptr hl hv h1 hk
  | iface h => exact Rep.iface h
  | fn hl hv => exact Rep.fn hl hv
  | tup hl hv => exact Rep.tup hl hv
theorem evalS_rep {W0 : Fr} {K0 : Know} {g : G} {σ : St} {a : Act} {w : World} (h : Rel W0 K0 g σ a w) (x : Operand) : RepS g σ.H (evalS σ.env x) (a.eval x) := by
  cases x with
  | tmp t => exact h.env t
  | const v => exact ofV_rep _ _ _
  | global g => exact Rep.val _
  | func f => exact Rep.fn (vs := []) rfl (fun j x v hx _ => by simp at hx)
/-- One cell: not an aggregate. -/
def D.one : D → Bool
  | .val v => v.oneCell'
  | .agg _ => false
  | .tup _ => false
  | _ => true
def CV.one : CV → Bool
  | .any => false
  | .d x => x.one
  | _ => true
theorem Rep.oneCell {K : Know} {x : D} {v : Value} (h : Rep K x v) (h1 : x.one = true) : v.oneCell' = true := by
  cases h <;> first | exact h1 | rfl | simp [D.one] at h1
theorem RepC.oneCell {g : G} {H : Hp} {x : CV} {v : Value} (h : RepC g H x v) (h1 : x.one = true) : v.oneCell' = true := by
  cases x with
  | any => simp [CV.one] at h1
  | d x => exact Rep.oneCell h h1
  | own id off => obtain ⟨b, _, rfl, _⟩ := h; rfl
  | app τ sz xs => obtain ⟨h, _⟩ := h; cases h; rfl
  | full sz xs => obtain ⟨h, _⟩ := h; cases h; rfl
  | view id sz off len => obtain ⟨b, c, _, rfl, _⟩ := h; rfl
  | clo f caps => obtain ⟨vs, rfl, _⟩ := h; rfl
  | yld id => obtain ⟨b, _, rfl, _⟩ := h; rfl
theorem cells_one {v : Value} (h : v.oneCell' = true) : v.cells = #[v] := by cases v <;> simp_all [Value.cells, Value.oneCell']
/-- The cells of what is in a slot. -/
def SV.cells : SV → Option (List CV)
  | .c x => if x.one then some [x] else none
  | .agg cs => some cs
theorem SV.cells_rep {g : G} {H : Hp} {x : SV} {v : Value} {cs : List CV} (h : RepS g H x v) (hc : x.cells = some cs) :
    ∃ vs : List Value, v.cells = vs.toArray ∧ RepCs g H cs vs ∧ ∀ u ∈ vs, u.oneCell' = true := by
  cases x with
  | c x =>
    simp only [SV.cells] at hc
    split at hc
    · rename_i h1
      cases hc
      refine ⟨[v], cells_one (RepC.oneCell h h1), ⟨rfl, fun j x' v' hx hv => ?_⟩, fun u hu => ?_⟩
      · cases j with
        | zero => simp at hx hv; subst hx hv; exact h
        | succ j => simp at hx
      · simp at hu; subst hu; exact RepC.oneCell h h1
    · cases hc
  | agg cs' =>
    simp only [SV.cells, Option.some.injEq] at hc
    subst hc
    obtain ⟨vs, rfl, hr, h1⟩ := h
    exact ⟨vs, rfl, hr, h1⟩
/-- As plain data: what a call may be handed. -/
def CV.toD (H : Hp) : CV → Option D
  | .any => none
  | .d x => some x
  | .app _ s xs => some (.lst s xs)
  | .full s xs => some (.lst s xs)
  | .own id off => match H id with
    | some (.froz ds) => some (.ptr ds off)
    | _ => none
  | .view _ _ _ _ => none
  | .clo _ _ => none
  | .yld _ => none
def CV.toD0 : CV → Option D
  | .d x => some x
  | .app _ s xs => some (.lst s xs)
  | .full s xs => some (.lst s xs)
  | _ => none
theorem CV.toD0_rep {g : G} {H : Hp} {x : CV} {v : Value} {y : D} (h : RepC g H x v) (hy : x.toD0 = some y) : Rep g.K y v := by
  cases x <;> simp [CV.toD0] at hy
  · subst hy; exact h
  · subst hy; exact h.1
  · subst hy; exact h.1
theorem CV.toD_rep {W0 : Fr} {K0 : Know} {g : G} {H : Hp} {w : World} (hh : RelH W0 K0 g H w) {x : CV} {v : Value} {y : D} (h : RepC g H x v) (hy : x.toD H = some y) : Rep g.K y v := by
  cases x with
  | any => simp [CV.toD] at hy
  | d x => simp [CV.toD] at hy; subst hy; exact h
  | app τ s xs => simp [CV.toD] at hy; subst hy; exact h.1
  | full s xs => simp [CV.toD] at hy; subst hy; exact h.1
  | view id sz off len => simp [CV.toD] at hy
  | clo f caps => simp [CV.toD] at hy
  | yld id => simp [CV.toD] at hy
  | own id off =>
    simp only [CV.toD] at hy
    split at hy
    · rename_i ds hds
      cases hy
      obtain ⟨b, hb, rfl, _⟩ := h
      obtain ⟨b', vs, hb', hr, h1, hk⟩ := hh.holds id _ hds
      rw [hb] at hb'; cases hb'
      have := Rep.ptr (K := g.K) (b := b) (o := 0) (off := off) hr.1 hr.2 h1 (fun j v hj => by rw [Nat.zero_add]; exact hk j v hj)
      simpa using this
    · cases hy
def mapO {α β : Type} (f : α → Option β) : List α → Option (List β)
  | [] => some []
  | x :: xs => match f x with
    | none => none
    | some y => match mapO f xs with
      | none => none
      | some ys => some (y :: ys)
theorem mapO_get {α β : Type} {f : α → Option β} : ∀ {xs : List α} {ys : List β}, mapO f xs = some ys → ys.length = xs.length ∧ ∀ (j : Nat) y, ys[j]? = some y → ∃ x, xs[j]? = some x ∧ f x = some y
  | [], ys, h => by simp [mapO] at h; subst h; exact ⟨rfl, fun j y hy => by simp at hy⟩
  | x :: xs, ys, h => by
    simp only [mapO] at h
    cases hf : f x with
    | none => rw [hf] at h; cases h
    | some y =>
      cases hm : mapO f xs with
      | none => rw [hf, hm] at h; cases h
      | some ys' =>
        rw [hf, hm] at h; cases h
        obtain ⟨h1, h2⟩ := mapO_get hm
        refine ⟨by simp [h1], fun j z hz => ?_⟩
        cases j with
        | zero => simp at hz; subst hz; exact ⟨x, rfl, hf⟩
        | succ j => exact h2 j z (by simpa using hz)
def SV.toD (H : Hp) : SV → Option D
  | .c x => x.toD H
  | .agg cs => match mapO CV.toD0 cs with
    | some ds => some (.agg ds)
    | none => none
theorem RepCs.toD0 {g : G} {H : Hp} {cs : List CV} {vs : List Value} {ds : List D} (h : RepCs g H cs vs) (hm : mapO CV.toD0 cs = some ds) : RepL g.K ds vs := by
  obtain ⟨h1, h2⟩ := mapO_get hm
  refine ⟨h1.trans h.1, fun j x v hx hv => ?_⟩
  obtain ⟨c, hc, hcx⟩ := h2 j x hx
  exact CV.toD0_rep (h.2 j c v hc hv) hcx
theorem SV.toD_rep {W0 : Fr} {K0 : Know} {g : G} {H : Hp} {w : World} (hh : RelH W0 K0 g H w) {x : SV} {v : Value} {y : D} (h : RepS g H x v) (hy : x.toD H = some y) : Rep g.K y v := by
  cases x with
  | c x => exact CV.toD_rep hh h hy
  | agg cs =>
    simp only [SV.toD] at hy
    split at hy
    · rename_i ds hds
      cases hy
      obtain ⟨vs, rfl, hr, h1⟩ := h
      have := hr.toD0 hds
      exact .agg this.1 this.2 h1
    · cases hy
end Go.Proofs.YticbdcpdooahjaaDoor
