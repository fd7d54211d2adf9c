/- The abstract machine (AbsA, AbsB, AbsC, AbsD, AbsE, AbsF, AbsQ, AbsO, AbsG, AbsH, AbsI, AbsJ, AbsK, AbsL). -/
import Derived.Below
import Derived.Orders
import Derived.Laws.Append
import Derived.Laws.AppendOwn
import Derived.Laws.CopyRow
import Derived.Laws.Tables
import Derived.Laws.Cells
import Derived.Laws.Entries
import Derived.RangeFuncRecord
import Derived.RangeFuncLeaves
import Derived.RangeFuncIn
import Derived.OrdersIn
import Derived.TacticsIn
import Derived.Laws.MakeOwn
import Derived.Laws.BytesString
import Derived.Laws.BytesArg
import Derived.Laws.IdiomStrings
import Derived.Laws.Strings
import Derived.Tactics
import Derived.Scope
namespace Go.Proofs.YtepcpdionlfkhaaGreatDoor
open Go Go.RowKit
set_option linter.unusedVariables false
set_option linter.unusedSimpArgs false
/-- Plain data: no address, no memory. -/
inductive D where
  | val (v : Value)
  | lst (sz : Nat) (xs : List (List D))
  | ptr (cs : List D) (off : Nat)
  | iface (t : TypeId) (x : D)
  | fn (f : Fn) (caps : List D)
  | agg (cs : List D)
  | tup (rs : List D)
instance : Inhabited D := ⟨.val (.bool false)⟩
/-- What is known of cells that nobody writes any more. -/
abbrev Know := Nat → Nat → Option Value
def KLe (K K' : Know) : Prop := ∀ b o v, K b o = some v → K' b o = some v
def Ext (K K' : Know) (n : Nat) : Prop := KLe K K' ∧ ∀ b o, b < n → K' b o = K b o
def KW (K : Know) (w : World) : Prop := ∀ b o v, K b o = some v → w.cell? ⟨b, o, none⟩ = some v
/-- What is known from the start: variables of the library's own. -/
def BaseK : Know := fun b o => if b = 0 ∧ o = 0 then some (.iface 211 (.agg #[.pointer (some ⟨4, 53, none⟩)])) else none
/-- The value v stands for the datum. -/
inductive Rep (K : Know) : D → Value → Prop
  | val (v : Value) : Rep K (.val v) v
  | lst {sz : Nat} {xs : List (List D)} {vs : List Value} {a : Option Addr} {c : Nat} (hs : ∀ x ∈ xs, x.length = sz) (hc : xs.length ≤ c)
      (hl : xs.flatten.length = vs.length) (hv : ∀ (j : Nat) (x : D) (v : Value), xs.flatten[j]? = some x → vs[j]? = some v → Rep K x v) (h1 : ∀ v ∈ vs, v.oneCell' = true)
      (hk : xs ≠ [] → ∃ b off, a = some ⟨b, off, none⟩ ∧ ∀ (j : Nat) v, vs[j]? = some v → K b (off + j) = some v) : Rep K (.lst sz xs) (.slice a xs.length c)
  | ptr {cs : List D} {vs : List Value} {b o off : Nat} (hl : cs.length = vs.length) (hv : ∀ (j : Nat) (x : D) (v : Value), cs[j]? = some x → vs[j]? = some v → Rep K x v) (h1 : ∀ v ∈ vs, v.oneCell' = true)
      (hk : ∀ (j : Nat) v, vs[j]? = some v → K b (o + j) = some v) : Rep K (.ptr cs off) (.pointer (some ⟨b, o + off, none⟩))
  | iface {t : TypeId} {x : D} {v : Value} (h : Rep K x v) : Rep K (.iface t x) (.iface t v)
  | fn {f : Fn} {caps : List D} {vs : List Value} (hl : caps.length = vs.length) (hv : ∀ (j : Nat) (x : D) (v : Value), caps[j]? = some x → vs[j]? = some v → Rep K x v) : Rep K (.fn f caps) (.func f #[] vs.toArray)
  | agg {cs : List D} {vs : List Value} (hl : cs.length = vs.length) (hv : ∀ (j : Nat) (x : D) (v : Value), cs[j]? = some x → vs[j]? = some v → Rep K x v) (h1 : ∀ v ∈ vs, v.oneCell' = true) : Rep K (.agg cs) (.agg vs.toArray)
  | tup {cs : List D} {vs : List Value} (hl : cs.length = vs.length) (hv : ∀ (j : Nat) (x : D) (v : Value), cs[j]? = some x → vs[j]? = some v → Rep K x v) : Rep K (.tup cs) (.tuple vs.toArray)
def RepL (K : Know) (ds : List D) (vs : List Value) : Prop := ds.length = vs.length ∧ ∀ (j : Nat) (x : D) (v : Value), ds[j]? = some x → vs[j]? = some v → Rep K x v
theorem Rep.mono {K K' : Know} (h : KLe K K') {x : D} {v : Value} (r : Rep K x v) : Rep K' x v := by
  induction r with
  | val v => exact .val v
  | lst hs hc hl hv h1 hk ih => exact .lst hs hc hl ih h1 (fun hne => let ⟨b, off, ha, hj⟩ := hk hne; ⟨b, off, ha, fun j v hv => h _ _ _ (hj j v hv)⟩)
  | ptr hl hv h1 hk ih => exact .ptr hl ih h1 (fun j v hj => h _ _ _ (hk j v hj))
  | iface _ ih => exact .iface ih
  | fn hl hv ih => exact .fn hl ih
  | agg hl hv h1 ih => exact .agg hl ih h1
  | tup hl hv ih => exact .tup hl ih
theorem RepL.mono {K K' : Know} (h : KLe K K') {ds : List D} {vs : List Value} (r : RepL K ds vs) : RepL K' ds vs := ⟨r.1, fun j x v hx hv => (r.2 j x v hx hv).mono h⟩
theorem KLe.refl (K : Know) : KLe K K := fun _ _ _ h => h
theorem KLe.trans {K K' K'' : Know} (h : KLe K K') (h' : KLe K' K'') : KLe K K'' := fun _ _ _ x => h' _ _ _ (h _ _ _ x)
theorem Ext.refl (K : Know) (n : Nat) : Ext K K n := ⟨KLe.refl K, fun _ _ _ => rfl⟩
theorem Ext.trans {K K' K'' : Know} {n m : Nat} (h : Ext K K' n) (h' : Ext K' K'' m) (hnm : n ≤ m) : Ext K K'' n :=
  ⟨h.1.trans h'.1, fun b o hb => (h'.2 b o (by omega)).trans (h.2 b o hb)⟩
/-- What is in a slot or in a cell of a box: nothing known; plain data; a pointer into a box; a list to which one may append (with its token); a list without room; a slice of a box; a function with pointers into boxes. -/
inductive Cap where
  | d (x : D)
  | own (id off : Nat)
inductive CV where
  | any
  | d (x : D)
  | own (id off : Nat)
  | app (τ sz : Nat) (xs : List (List D))
  | full (sz : Nat) (xs : List (List D))
  | view (id sz off len : Nat)
  | clo (f : Fn) (caps : List Cap)
  | bnd (f : Fn) (caps : List Cap)
  | yld (id : Nat)
  | mt (τ ver : Nat)
  | mpt (τ ver off : Nat)
  | mp (id : Nat)
inductive SV where
  | c (x : CV)
  | agg (cs : List CV)
/-- A box: cells that may be written; cells that are written no more; the room behind a list of n elements. -/
inductive HE where
  | cells (cs : List CV)
  | froz (ds : List D)
  | row (e sz n : Nat)
  | obj (o : Obj)
  | mrow (e sz ver : Nat) (cs : List CV)
  | ob (cs : List CV) (p : List Value → Obj → Prop)
abbrev Hp := Nat → Option HE
def isRow : Option HE → Bool
  | some (.row _ _ _) => true
  | some (.mrow _ _ _ _) => true
  | _ => false
structure G where
  K : Know
  β : Nat → Option Nat
  cap : Nat → Nat
def Cap.ids : Cap → List Nat
  | .d _ => []
  | .own id _ => [id]
def CV.ids : CV → List Nat
  | .own id _ => [id]
  | .app τ _ _ => [τ]
  | .view id _ _ _ => [id]
  | .clo _ caps => caps.flatMap Cap.ids
  | .bnd _ caps => caps.flatMap Cap.ids
  | .yld id => [id]
  | .mt τ _ => [τ]
  | .mpt τ _ _ => [τ]
  | .mp id => [id]
  | _ => []
def RepCap (g : G) (H : Hp) : Cap → Value → Prop
  | .d x, v => Rep g.K x v
  | .own id off, v => ∃ b, g.β id = some b ∧ v = .pointer (some ⟨b, off, none⟩) ∧ isRow (H id) = false
def RepC (g : G) (H : Hp) : CV → Value → Prop
  | .any, _ => True
  | .d x, v => Rep g.K x v
  | .own id off, v => ∃ b, g.β id = some b ∧ v = .pointer (some ⟨b, off, none⟩) ∧ isRow (H id) = false
  | .app τ sz xs, v => Rep g.K (.lst sz xs) v ∧ ∃ e n, H τ = some (.row e sz n) ∧ xs.length ≤ n ∧
      (xs.length = n → ((∃ a, v = .slice a xs.length xs.length) ∨ ∃ b, g.β τ = some b ∧ v = .slice (some ⟨b, 0, none⟩) xs.length (g.cap τ)))
  | .full sz xs, v => Rep g.K (.lst sz xs) v ∧ ∃ a, v = .slice a xs.length xs.length
  | .view id sz off len, v => ∃ b c, g.β id = some b ∧ v = .slice (some ⟨b, off, none⟩) len c ∧ len ≤ c ∧ isRow (H id) = false
  | .clo f caps, v => ∃ vs : List Value, v = .func f #[] vs.toArray ∧ caps.length = vs.length ∧ ∀ (j : Nat) (c : Cap) (u : Value), caps[j]? = some c → vs[j]? = some u → RepCap g H c u
  | .bnd f caps, v => ∃ vs : List Value, v = .func f vs.toArray #[] ∧ caps.length = vs.length ∧ ∀ (j : Nat) (c : Cap) (u : Value), caps[j]? = some c → vs[j]? = some u → RepCap g H c u
  | .yld id, v => ∃ b, g.β id = some b ∧ v = .func (.yield b) #[] #[] ∧ isRow (H id) = false
  | .mp id, v => ∃ b, g.β id = some b ∧ v = .map (some b) ∧ isRow (H id) = false
  | .mt τ k, v => (∃ a m c, v = .slice a m c) ∧ ∃ e sz n cs, H τ = some (.mrow e sz n cs) ∧ k ≤ n ∧ (k = n → (∃ b, g.β τ = some b ∧ v = .slice (some ⟨b, 0, none⟩) (cs.length / sz) (g.cap τ)) ∨ (g.β τ = none ∧ cs = [] ∧ v = .slice none 0 0))
  | .mpt τ k off, v => (∃ a, v = .pointer a) ∧ ∃ e sz n cs, H τ = some (.mrow e sz n cs) ∧ k ≤ n ∧ (k = n → ∃ b, g.β τ = some b ∧ v = .pointer (some ⟨b, off, none⟩))
def RepCs (g : G) (H : Hp) (cs : List CV) (vs : List Value) : Prop := cs.length = vs.length ∧ ∀ (j : Nat) (x : CV) (v : Value), cs[j]? = some x → vs[j]? = some v → RepC g H x v
def RepS (g : G) (H : Hp) : SV → Value → Prop
  | .c x, v => RepC g H x v
  | .agg cs, v => ∃ vs : List Value, v = .agg vs.toArray ∧ RepCs g H cs vs ∧ ∀ u ∈ vs, u.oneCell' = true
def HoldsE (g : G) (H : Hp) (w : World) (id : Nat) : HE → Prop
  | .cells cs => ∃ b vs t, g.β id = some b ∧ w.heap[b]? = some (.cells (List.toArray vs) t (0, 0)) ∧ RepCs g H cs vs ∧ (∀ u ∈ vs, u.oneCell' = true) ∧ ∀ o, g.K b o = none
  | .froz ds => ∃ b vs, g.β id = some b ∧ RepL g.K ds vs ∧ (∀ u ∈ vs, u.oneCell' = true) ∧ ∀ (j : Nat) v, vs[j]? = some v → g.K b j = some v
  | .obj o => ∃ b, g.β id = some b ∧ w.heap[b]? = some o ∧ ∀ o', g.K b o' = none
  | .mrow e sz n cs => 0 < sz ∧ cs.length % sz = 0 ∧ ((g.β id = none ∧ cs = []) ∨ ∃ b cur vs rest, g.β id = some b ∧ w.heap[b]? = some (.cells cur e (0, 0)) ∧ cur.toList = vs ++ rest ∧ cur.size = g.cap id * sz ∧ RepCs g H cs vs ∧ (∀ u ∈ vs, u.oneCell' = true) ∧ ∀ o, g.K b o = none)
  | .ob cs p => ∃ b vs o, g.β id = some b ∧ w.heap[b]? = some o ∧ RepCs g H cs vs ∧ p vs o ∧ ∀ o', g.K b o' = none
  | .row e sz n => ∀ b, g.β id = some b → ∃ cur, w.heap[b]? = some (.cells cur e (0, 0)) ∧ cur.size = g.cap id * sz ∧ n ≤ g.cap id ∧ ∀ o, n * sz ≤ o → g.K b o = none
/-- How a call began: the world; the blocks that were lent to it; the boxes that were lent, by number, and what they were. -/
structure Fr where
  W : World
  S : Nat → Prop
  ln : List Nat
  g : G
  H : Hp
  ro : Option Nat
def Fr.mine (F : Fr) (b : Nat) : Prop := F.W.heap.size ≤ b ∨ F.S b
structure BelowF (F : Fr) (w : World) : Prop where
  os : w.os = F.W.os
  tape : w.tape = F.W.tape
  output : w.output = F.W.output
  size : F.W.heap.size ≤ w.heap.size
  block : ∀ k, ¬ F.mine k → w.heap[k]? = F.W.heap[k]?
def ExtF (F : Fr) (K K' : Know) : Prop := KLe K K' ∧ ∀ b o, ¬ F.mine b → K' b o = K b o
theorem Fr.lt {F : Fr} {k : Nat} (h : ¬ F.mine k) : k < F.W.heap.size := by unfold Fr.mine at h; omega
theorem Fr.new {F : Fr} {k : Nat} (h : F.W.heap.size ≤ k) : F.mine k := .inl h
theorem Fr.ne {F : Fr} {k b : Nat} (h : ¬ F.mine k) (hb : F.mine b) : k ≠ b := fun e => h (e ▸ hb)
theorem BelowF.trans {F : Fr} {w w' : World} (h : BelowF F w) (hb : Below w.heap.size w w') : BelowF F w' :=
  ⟨hb.os.trans h.os, hb.tape.trans h.tape, hb.output.trans h.output, Nat.le_trans h.size hb.size, fun k hk => (hb.block k (Nat.lt_of_lt_of_le (Fr.lt hk) h.size)).trans (h.block k hk)⟩
theorem ExtF.trans {F : Fr} {K K' K'' : Know} {n : Nat} (h : ExtF F K K') (h' : Ext K' K'' n) (hn : F.W.heap.size ≤ n) : ExtF F K K'' :=
  ⟨h.1.trans h'.1, fun b o hb => (h'.2 b o (Nat.lt_of_lt_of_le (Fr.lt hb) hn)).trans (h.2 b o hb)⟩
/-- Nothing is lent. -/
def Fr.of (w : World) (K : Know) : Fr := ⟨w, fun _ => False, [], ⟨K, fun _ => none, fun _ => 0⟩, fun _ => none, none⟩
theorem Fr.of_mine {w : World} {K : Know} {b : Nat} (h : (Fr.of w K).mine b) : w.heap.size ≤ b := h.elim id False.elim
theorem Fr.of_below (w : World) (K : Know) : BelowF (Fr.of w K) w := ⟨rfl, rfl, rfl, Nat.le_refl _, fun _ _ => rfl⟩
theorem Fr.of_ext (w : World) (K : Know) : ExtF (Fr.of w K) K K := ⟨KLe.refl _, fun _ _ _ => rfl⟩
theorem BelowF.of {w w' : World} {K : Know} (h : BelowF (Fr.of w K) w') : Below w.heap.size w w' := ⟨h.os, h.tape, h.output, h.size, fun k hk => h.block k (fun h => by have := Fr.of_mine h; omega)⟩
theorem ExtF.of {w : World} {K K' K'' : Know} (h : ExtF (Fr.of w K) K' K'') : Ext K' K'' w.heap.size := ⟨h.1, fun b o hb => h.2 b o (fun h => by have := Fr.of_mine h; omega)⟩
/-- What was lent still stands for what it did. -/
def GLeN (F : Fr) (g : G) (H : Hp) : Prop := ∀ x v, (∀ i ∈ CV.ids x, i ∈ F.ln) → RepC F.g F.H x v → RepC g H x v
/-- The memory, as the machine has it: W0 how the call began and K0 what was known then. -/
structure RelH (W0 : Fr) (K0 : Know) (g : G) (H : Hp) (w : World) : Prop where
  below : BelowF W0 w
  ext : ExtF W0 K0 g.K
  kw : KW g.K w
  holds : ∀ id he, H id = some he → HoldsE g H w id he
  base : ∀ id b, g.β id = some b → W0.mine b
  dom : ∀ id, H id = none → g.β id = none
  sep : ∀ i j b, g.β i = some b → g.β j = some b → i = j
  frozlt : ∀ id b, g.β id = some b → b < w.heap.size
  glob : KLe BaseK K0
  lent : GLeN W0 g H
/-- Nothing that stood for something stops doing so. -/
def GLe (g : G) (H : Hp) (g' : G) (H' : Hp) : Prop := ∀ x v, RepC g H x v → RepC g' H' x v
theorem GLe.refl (g : G) (H : Hp) : GLe g H g H := fun _ _ h => h
theorem GLe.trans {g g' g'' : G} {H H' H'' : Hp} (h : GLe g H g' H') (h' : GLe g' H' g'' H'') : GLe g H g'' H'' := fun _ _ x => h' _ _ (h _ _ x)
theorem Fr.of_lent (w : World) (K : Know) : GLeN (Fr.of w K) ⟨K, fun _ => none, fun _ => 0⟩ (fun _ => none) := fun _ _ _ h => h
theorem clo_mono {g g' : G} {H H' : Hp} {f : Fn} {caps : List Cap} {v : Value} (r : RepC g H (.clo f caps) v) (hK : KLe g.K g'.K) (ho : ∀ id off v, RepC g H (.own id off) v → RepC g' H' (.own id off) v) : RepC g' H' (.clo f caps) v := by
  obtain ⟨vs, hv, hl, hc⟩ := r
  refine ⟨vs, hv, hl, fun j c u hj hu => ?_⟩
  have := hc j c u hj hu
  cases c with
  | d x => exact Rep.mono hK this
  | own id off => exact ho id off u this
theorem bnd_mono {g g' : G} {H H' : Hp} {f : Fn} {caps : List Cap} {v : Value} (r : RepC g H (.bnd f caps) v) (hK : KLe g.K g'.K) (ho : ∀ id off v, RepC g H (.own id off) v → RepC g' H' (.own id off) v) : RepC g' H' (.bnd f caps) v := by
  obtain ⟨vs, hv, hl, hc⟩ := r
  refine ⟨vs, hv, hl, fun j c u hj hu => ?_⟩
  have := hc j c u hj hu
  cases c with
  | d x => exact Rep.mono hK this
  | own id off => exact ho id off u this
theorem yld_mono {g g' : G} {H H' : Hp} {id : Nat} {v : Value} (r : RepC g H (.yld id) v) (ho : ∀ id off v, RepC g H (.own id off) v → RepC g' H' (.own id off) v) : RepC g' H' (.yld id) v := by
  obtain ⟨b, hb, hv, hr⟩ := r
  obtain ⟨b', hb', he, hr'⟩ := ho id 0 (.pointer (some ⟨b, 0, none⟩)) ⟨b, hb, rfl, hr⟩
  simp only [Value.pointer.injEq, Option.some.injEq, Addr.mk.injEq, and_true] at he
  exact ⟨b', hb', by rw [hv, he], hr'⟩
/-- Rows of one's own that are written are as they were. -/
def MLe (g : G) (H : Hp) (g' : G) (H' : Hp) : Prop := ∀ τ e sz n cs, H τ = some (.mrow e sz n cs) → H' τ = some (.mrow e sz n cs) ∧ g'.β τ = g.β τ ∧ g'.cap τ = g.cap τ
theorem MLe.refl (g : G) (H : Hp) : MLe g H g H := fun _ _ _ _ _ h => ⟨h, rfl, rfl⟩
theorem mut_same {g g' : G} {H H' : Hp} {τ k : Nat} {v : Value} (hM : MLe g H g' H') (r : RepC g H (.mt τ k) v) : RepC g' H' (.mt τ k) v := by
  obtain ⟨h1, e, sz, n, cs, hτ, hk, h2⟩ := r
  obtain ⟨m1, m2, m3⟩ := hM τ e sz n cs hτ
  refine ⟨h1, e, sz, n, cs, m1, hk, fun hn => ?_⟩
  rw [m2, m3]; exact h2 hn
theorem mpt_same {g g' : G} {H H' : Hp} {τ k o : Nat} {v : Value} (hM : MLe g H g' H') (r : RepC g H (.mpt τ k o) v) : RepC g' H' (.mpt τ k o) v := by
  obtain ⟨h1, e, sz, n, cs, hτ, hk, h2⟩ := r
  obtain ⟨m1, m2, m3⟩ := hM τ e sz n cs hτ
  refine ⟨h1, e, sz, n, cs, m1, hk, fun hn => ?_⟩
  rw [m2]; exact h2 hn
theorem mp_mono {g g' : G} {H H' : Hp} {id : Nat} {v : Value} (r : RepC g H (.mp id) v) (ho : ∀ id off v, RepC g H (.own id off) v → RepC g' H' (.own id off) v) : RepC g' H' (.mp id) v := by
  obtain ⟨b, hb, hv, hr⟩ := r
  obtain ⟨b', hb', he, hr'⟩ := ho id 0 (.pointer (some ⟨b, 0, none⟩)) ⟨b, hb, rfl, hr⟩
  simp only [Value.pointer.injEq, Option.some.injEq, Addr.mk.injEq, and_true] at he
  exact ⟨b', hb', by rw [hv, he], hr'⟩
theorem GLeN.trans {F : Fr} {g g' : G} {H H' : Hp} (h : GLeN F g H) (h' : GLe g H g' H') : GLeN F g' H' := fun x v hi r => h' _ _ (h x v hi r)
theorem mrow_gen {g g' : G} {H H' : Hp} {w w' : World} {id id' e sz n : Nat} {cs : List CV} (h : HoldsE g H w id (.mrow e sz n cs)) (hβ : g'.β id' = g.β id) (hcap : g'.cap id' = g.cap id) (hheap : ∀ b o, g.β id = some b → w.heap[b]? = some o → w'.heap[b]? = some o) (hle : ∀ x ∈ cs, ∀ v, RepC g H x v → RepC g' H' x v)
    (hK : ∀ b o, g.β id = some b → g.K b o = none → b < w.heap.size → g'.K b o = none) : HoldsE g' H' w' id' (.mrow e sz n cs) := by
  obtain ⟨h1, h2, h3⟩ := h
  refine ⟨h1, h2, ?_⟩
  rcases h3 with ⟨h4, h5⟩ | ⟨b, cur, vs, rest, h4, h5, h6, h7, h8, h9, h10⟩
  · exact .inl ⟨hβ.trans h4, h5⟩
  · refine .inr ⟨b, cur, vs, rest, hβ.trans h4, hheap b _ h4 h5, h6, by rw [hcap]; exact h7, ⟨h8.1, fun j x v hx hv => hle _ (List.mem_of_getElem? hx) _ (h8.2 j x v hx hv)⟩, h9, fun o => hK b o h4 (h10 o) ?_⟩
    exact (Array.getElem?_eq_some_iff.1 h5).1
theorem ob_gen {g g' : G} {H H' : Hp} {w w' : World} {id id' : Nat} {cs : List CV} {p : List Value → Obj → Prop} (h : HoldsE g H w id (.ob cs p)) (hβ : g'.β id' = g.β id) (hcap : g'.cap id' = g.cap id) (hheap : ∀ b o, g.β id = some b → w.heap[b]? = some o → w'.heap[b]? = some o) (hle : ∀ x ∈ cs, ∀ v, RepC g H x v → RepC g' H' x v)
    (hK : ∀ b o, g.β id = some b → g.K b o = none → b < w.heap.size → g'.K b o = none) : HoldsE g' H' w' id' (.ob cs p) := by
  obtain ⟨b, vs, o, h4, h5, h8, h9, h10⟩ := h
  exact ⟨b, vs, o, hβ.trans h4, hheap b _ h4 h5, ⟨h8.1, fun j x v hx hv => hle _ (List.mem_of_getElem? hx) _ (h8.2 j x v hx hv)⟩, h9, fun o => hK b o h4 (h10 o) (Array.getElem?_eq_some_iff.1 h5).1⟩
theorem mut_at {g g' : G} {H H' : Hp} {τ τ' k : Nat} {v : Value} (r : RepC g H (.mt τ k) v) (hH : ∀ e sz n cs, H τ = some (.mrow e sz n cs) → ∃ cs', H' τ' = some (.mrow e sz n cs') ∧ cs'.length = cs.length) (hβ : g'.β τ' = g.β τ) (hcap : g'.cap τ' = g.cap τ) : RepC g' H' (.mt τ' k) v := by
  obtain ⟨h1, e, sz, n, cs, hτ, hk, h2⟩ := r
  obtain ⟨cs', q1, q2⟩ := hH e sz n cs hτ
  refine ⟨h1, e, sz, n, cs', q1, hk, fun hn => ?_⟩
  rw [hβ, hcap, q2]
  rcases h2 hn with h | ⟨a, b, c⟩
  · exact .inl h
  · exact .inr ⟨a, List.eq_nil_of_length_eq_zero (by rw [q2, b]; rfl), c⟩
theorem mpt_at {g g' : G} {H H' : Hp} {τ τ' k o : Nat} {v : Value} (r : RepC g H (.mpt τ k o) v) (hH : ∀ e sz n cs, H τ = some (.mrow e sz n cs) → ∃ cs', H' τ' = some (.mrow e sz n cs') ∧ cs'.length = cs.length) (hβ : g'.β τ' = g.β τ) : RepC g' H' (.mpt τ' k o) v := by
  obtain ⟨h1, e, sz, n, cs, hτ, hk, h2⟩ := r
  obtain ⟨cs', q1, q2⟩ := hH e sz n cs hτ
  refine ⟨h1, e, sz, n, cs', q1, hk, fun hn => ?_⟩
  rw [hβ]; exact h2 hn
theorem mrow_holds {g g' : G} {H H' : Hp} {w w' : World} {id e sz n : Nat} {cs : List CV} (h : HoldsE g H w id (.mrow e sz n cs)) (hβ : g'.β id = g.β id) (hcap : g'.cap id = g.cap id) (hheap : ∀ b o, g.β id = some b → w.heap[b]? = some o → w'.heap[b]? = some o) (hle : GLe g H g' H')
    (hK : ∀ b o, g.β id = some b → g.K b o = none → b < w.heap.size → g'.K b o = none) : HoldsE g' H' w' id (.mrow e sz n cs) := by
  obtain ⟨h1, h2, h3⟩ := h
  refine ⟨h1, h2, ?_⟩
  rcases h3 with ⟨h4, h5⟩ | ⟨b, cur, vs, rest, h4, h5, h6, h7, h8, h9, h10⟩
  · exact .inl ⟨hβ.trans h4, h5⟩
  · refine .inr ⟨b, cur, vs, rest, hβ.trans h4, hheap b _ h4 h5, h6, by rw [hcap]; exact h7, ⟨h8.1, fun j x v hx hv => hle _ _ (h8.2 j x v hx hv)⟩, h9, fun o => hK b o h4 (h10 o) ?_⟩
    exact (Array.getElem?_eq_some_iff.1 h5).1
theorem ob_holds {g g' : G} {H H' : Hp} {w w' : World} {id : Nat} {cs : List CV} {p : List Value → Obj → Prop} (h : HoldsE g H w id (.ob cs p)) (hβ : g'.β id = g.β id) (hcap : g'.cap id = g.cap id) (hheap : ∀ b o, g.β id = some b → w.heap[b]? = some o → w'.heap[b]? = some o) (hle : GLe g H g' H')
    (hK : ∀ b o, g.β id = some b → g.K b o = none → b < w.heap.size → g'.K b o = none) : HoldsE g' H' w' id (.ob cs p) := ob_gen h hβ hcap hheap (fun x _ v q => hle x v q) hK
theorem RepCs.mono {g g' : G} {H H' : Hp} (h : GLe g H g' H') {cs : List CV} {vs : List Value} (r : RepCs g H cs vs) : RepCs g' H' cs vs := ⟨r.1, fun j x v hx hv => h _ _ (r.2 j x v hx hv)⟩
theorem RepS.mono {g g' : G} {H H' : Hp} (h : GLe g H g' H') {x : SV} {v : Value} (r : RepS g H x v) : RepS g' H' x v := by
  cases x with
  | c x => exact h _ _ r
  | agg cs => obtain ⟨vs, hv, hr, h1⟩ := r; exact ⟨vs, hv, hr.mono h, h1⟩
/-- What stands beside: the boxes that were lent; the blocks of deferred calls, by their boxes; is it a round of a loop over a function? -/
structure Fx where
  lent : List Nat
  dfs : List Nat
  rd : Bool
  lt : Option (G × Hp)
instance (n : Nat) : OfNat Fx n := ⟨⟨[], [], false, none⟩⟩
abbrev dfO : HE := .obj (.deferred (some []))
def DefsRel (g : G) (H : Hp) : List Nat → List Deferred → Prop
  | [], [] => True
  | id :: ids, d :: ds => (∃ b, g.β id = some b ∧ d = { target := .collected b, args := #[] }) ∧ H id = some dfO ∧ DefsRel g H ids ds
  | _, _ => False
/-- The frame: slots, boxes, the next box's number, how many slots there are. -/
structure St where
  env : Nat → SV
  H : Hp
  nx : Nat
  sz : Nat
  fx : Fx
structure Rel (W0 : Fr) (K0 : Know) (g : G) (σ : St) (a : Act) (w : World) : Prop where
  mem : RelH W0 K0 g σ.H w
  env : ∀ t, RepS g σ.H (σ.env t) (a.tmps.getD t undef)
  size : a.tmps.size = σ.sz
  defers : DefsRel g σ.H σ.fx.dfs a.defers
  ln : W0.ln = σ.fx.lent
  rd : W0.ro.isSome = σ.fx.rd
  nodup : σ.fx.dfs.Nodup
  lt : ∀ q, σ.fx.lt = some q → W0.g = q.1 ∧ W0.H = q.2
def upd {α : Type} (f : Nat → α) (t : Nat) (v : α) : Nat → α := fun i => if i = t then v else f i
theorem upd_same {α : Type} (f : Nat → α) (t : Nat) (v : α) : upd f t v t = v := by simp [upd]
theorem upd_ne {α : Type} (f : Nat → α) {t i : Nat} (v : α) (h : i ≠ t) : upd f t v i = f i := by simp [upd, h]
theorem MLe.upd {g g' : G} {H : Hp} {id : Nat} {x : Option HE} (hid : ∀ e sz n cs, H id ≠ some (.mrow e sz n cs)) (hβ : ∀ i, i ≠ id → g'.β i = g.β i) (hcap : ∀ i, i ≠ id → g'.cap i = g.cap i) : MLe g H g' (Go.Proofs.YtepcpdionlfkhaaGreatDoor.upd H id x) := by
  intro τ e sz n cs h
  have hne : τ ≠ id := fun q => by subst q; exact hid e sz n cs h
  exact ⟨(upd_ne _ _ hne).trans h, hβ τ hne, hcap τ hne⟩
def ofV : Value → SV
  | .agg cs => if cs.all (·.oneCell') then .agg (cs.toList.map fun v => .d (.val v)) else .c .any
  | .tuple _ => .c .any
  | v => .c (.d (.val v))
def SV.ofD : D → SV
  | .agg cs => .agg (cs.map .d)
  | x => .c (.d x)
def evalS (env : Nat → SV) : Operand → SV
  | .tmp t => env t
  | .const v => ofV v
  | .global g => .c (.d (.val (.pointer (some ⟨g, 0, none⟩))))
  | .func f => .c (.d (.fn (.func f) []))
theorem ofV_rep (g : G) (H : Hp) (v : Value) : RepS g H (ofV v) v := by
  unfold ofV
  split
  · rename_i cs
    split
    · rename_i h
      refine ⟨cs.toList, by simp, ⟨by simp, fun j x v hx hv => ?_⟩, fun u hu => ?_⟩
      · simp only [List.getElem?_map, hv, Option.map_some, Option.some.injEq] at hx
        subst hx; exact Rep.val v
      · simp only [Array.all_eq_true'] at h
        exact h u (by simpa using hu)
    · trivial
  · trivial
  · exact Rep.val _
theorem ofD_rep {K : Know} {x : D} {v : Value} (h : Rep K x v) (g : G) (H : Hp) (hk : g.K = K) : RepS g H (SV.ofD x) v := by
  subst hk
  cases h with
  | agg hl hv h1 =>
    refine ⟨_, rfl, ⟨by simpa using hl, fun j x v hx hv' => ?_⟩, h1⟩
    simp only [List.getElem?_map, Option.map_eq_some_iff] at hx
    obtain ⟨y, hy, rfl⟩ := hx
    exact hv j y v hy hv'
  | val v => exact Rep.val v
  | lst hs hc hl hv h1 hk => exact Rep.lst hs hc hl hv h1 hk
  | ptr hl hv h1 hk => exact Rep.ptr hl hv h1 hk
  | iface h => exact Rep.iface h
  | fn hl hv => exact Rep.fn hl hv
  | tup hl hv => exact Rep.tup hl hv
theorem evalS_rep {W0 : Fr} {K0 : Know} {g : G} {σ : St} {a : Act} {w : World} (h : Rel W0 K0 g σ a w) (x : Operand) : RepS g σ.H (evalS σ.env x) (a.eval x) := by
  cases x with
  | tmp t => exact h.env t
  | const v => exact ofV_rep _ _ _
  | global g => exact Rep.val _
  | func f => exact Rep.fn (vs := []) rfl (fun j x v hx _ => by simp at hx)
/-- One cell: not an aggregate. -/
def D.one : D → Bool
  | .val v => v.oneCell'
  | .agg _ => false
  | .tup _ => false
  | _ => true
def CV.one : CV → Bool
  | .any => false
  | .d x => x.one
  | _ => true
theorem Rep.oneCell {K : Know} {x : D} {v : Value} (h : Rep K x v) (h1 : x.one = true) : v.oneCell' = true := by
  cases h <;> first | exact h1 | rfl | simp [D.one] at h1
theorem RepC.oneCell {g : G} {H : Hp} {x : CV} {v : Value} (h : RepC g H x v) (h1 : x.one = true) : v.oneCell' = true := by
  cases x with
  | any => simp [CV.one] at h1
  | d x => exact Rep.oneCell h h1
  | own id off => obtain ⟨b, _, rfl, _⟩ := h; rfl
  | app τ sz xs => obtain ⟨h, _⟩ := h; cases h; rfl
  | full sz xs => obtain ⟨h, _⟩ := h; cases h; rfl
  | view id sz off len => obtain ⟨b, c, _, rfl, _⟩ := h; rfl
  | clo f caps => obtain ⟨vs, rfl, _⟩ := h; rfl
  | bnd f caps => obtain ⟨vs, rfl, _⟩ := h; rfl
  | yld id => obtain ⟨b, _, rfl, _⟩ := h; rfl
  | mt τ k => obtain ⟨⟨a, m, c, rfl⟩, _⟩ := h; rfl
  | mpt τ k o => obtain ⟨⟨a, rfl⟩, _⟩ := h; rfl
  | mp id => obtain ⟨b, _, rfl, _⟩ := h; rfl
theorem cells_one {v : Value} (h : v.oneCell' = true) : v.cells = #[v] := by cases v <;> simp_all [Value.cells, Value.oneCell']
/-- The cells of what is in a slot. -/
def SV.cells : SV → Option (List CV)
  | .c x => if x.one then some [x] else none
  | .agg cs => some cs
theorem SV.cells_rep {g : G} {H : Hp} {x : SV} {v : Value} {cs : List CV} (h : RepS g H x v) (hc : x.cells = some cs) :
    ∃ vs : List Value, v.cells = vs.toArray ∧ RepCs g H cs vs ∧ ∀ u ∈ vs, u.oneCell' = true := by
  cases x with
  | c x =>
    simp only [SV.cells] at hc
    split at hc
    · rename_i h1
      cases hc
      refine ⟨[v], cells_one (RepC.oneCell h h1), ⟨rfl, fun j x' v' hx hv => ?_⟩, fun u hu => ?_⟩
      · cases j with
        | zero => simp at hx hv; subst hx hv; exact h
        | succ j => simp at hx
      · simp at hu; subst hu; exact RepC.oneCell h h1
    · cases hc
  | agg cs' =>
    simp only [SV.cells, Option.some.injEq] at hc
    subst hc
    obtain ⟨vs, rfl, hr, h1⟩ := h
    exact ⟨vs, rfl, hr, h1⟩
/-- As plain data: what a call may be handed. -/
def CV.toD (H : Hp) : CV → Option D
  | .any => none
  | .d x => some x
  | .app _ s xs => some (.lst s xs)
  | .full s xs => some (.lst s xs)
  | .own id off => match H id with
    | some (.froz ds) => some (.ptr ds off)
    | _ => none
  | .view _ _ _ _ => none
  | .clo _ _ => none
  | .bnd _ _ => none
  | .yld _ => none
  | .mt _ _ => none
  | .mpt _ _ _ => none
  | .mp _ => none
def CV.toD0 : CV → Option D
  | .d x => some x
  | .app _ s xs => some (.lst s xs)
  | .full s xs => some (.lst s xs)
  | _ => none
theorem CV.toD0_rep {g : G} {H : Hp} {x : CV} {v : Value} {y : D} (h : RepC g H x v) (hy : x.toD0 = some y) : Rep g.K y v := by
  cases x <;> simp [CV.toD0] at hy
  · subst hy; exact h
  · subst hy; exact h.1
  · subst hy; exact h.1
theorem CV.toD_rep {W0 : Fr} {K0 : Know} {g : G} {H : Hp} {w : World} (hh : RelH W0 K0 g H w) {x : CV} {v : Value} {y : D} (h : RepC g H x v) (hy : x.toD H = some y) : Rep g.K y v := by
  cases x with
  | any => simp [CV.toD] at hy
  | d x => simp [CV.toD] at hy; subst hy; exact h
  | app τ s xs => simp [CV.toD] at hy; subst hy; exact h.1
  | full s xs => simp [CV.toD] at hy; subst hy; exact h.1
  | view id sz off len => simp [CV.toD] at hy
  | clo f caps => simp [CV.toD] at hy
  | bnd f caps => simp [CV.toD] at hy
  | yld id => simp [CV.toD] at hy
  | mt τ k => simp [CV.toD] at hy
  | mpt τ k o => simp [CV.toD] at hy
  | mp id => simp [CV.toD] at hy
  | own id off =>
    simp only [CV.toD] at hy
    split at hy
    · rename_i ds hds
      cases hy
      obtain ⟨b, hb, rfl, _⟩ := h
      obtain ⟨b', vs, hb', hr, h1, hk⟩ := hh.holds id _ hds
      rw [hb] at hb'; cases hb'
      have := Rep.ptr (K := g.K) (b := b) (o := 0) (off := off) hr.1 hr.2 h1 (fun j v hj => by rw [Nat.zero_add]; exact hk j v hj)
      simpa using this
    · cases hy
def mapO {α β : Type} (f : α → Option β) : List α → Option (List β)
  | [] => some []
  | x :: xs => match f x with
    | none => none
    | some y => match mapO f xs with
      | none => none
      | some ys => some (y :: ys)
theorem mapO_get {α β : Type} {f : α → Option β} : ∀ {xs : List α} {ys : List β}, mapO f xs = some ys → ys.length = xs.length ∧ ∀ (j : Nat) y, ys[j]? = some y → ∃ x, xs[j]? = some x ∧ f x = some y
  | [], ys, h => by simp [mapO] at h; subst h; exact ⟨rfl, fun j y hy => by simp at hy⟩
  | x :: xs, ys, h => by
    simp only [mapO] at h
    cases hf : f x with
    | none => rw [hf] at h; cases h
    | some y =>
      cases hm : mapO f xs with
      | none => rw [hf, hm] at h; cases h
      | some ys' =>
        rw [hf, hm] at h; cases h
        obtain ⟨h1, h2⟩ := mapO_get hm
        refine ⟨by simp [h1], fun j z hz => ?_⟩
        cases j with
        | zero => simp at hz; subst hz; exact ⟨x, rfl, hf⟩
        | succ j => exact h2 j z (by simpa using hz)
def SV.toD (H : Hp) : SV → Option D
  | .c x => x.toD H
  | .agg cs => match mapO CV.toD0 cs with
    | some ds => some (.agg ds)
    | none => none
theorem RepCs.toD0 {g : G} {H : Hp} {cs : List CV} {vs : List Value} {ds : List D} (h : RepCs g H cs vs) (hm : mapO CV.toD0 cs = some ds) : RepL g.K ds vs := by
  obtain ⟨h1, h2⟩ := mapO_get hm
  refine ⟨h1.trans h.1, fun j x v hx hv => ?_⟩
  obtain ⟨c, hc, hcx⟩ := h2 j x hx
  exact CV.toD0_rep (h.2 j c v hc hv) hcx
theorem SV.toD_rep {W0 : Fr} {K0 : Know} {g : G} {H : Hp} {w : World} (hh : RelH W0 K0 g H w) {x : SV} {v : Value} {y : D} (h : RepS g H x v) (hy : x.toD H = some y) : Rep g.K y v := by
  cases x with
  | c x => exact CV.toD_rep hh h hy
  | agg cs =>
    simp only [SV.toD] at hy
    split at hy
    · rename_i ds hds
      cases hy
      obtain ⟨vs, rfl, hr, h1⟩ := h
      have := hr.toD0 hds
      exact .agg this.1 this.2 h1
    · cases hy
end Go.Proofs.YtepcpdionlfkhaaGreatDoor
namespace Go.Proofs.YtepcpdionlfkhaaGreatDoor
open Go Go.RowKit
set_option linter.unusedVariables false
set_option linter.unusedSimpArgs false
/-- What the machine asks of a type. -/
structure TInfo where
  agg : Bool
  size : Nat
  bytes : Nat
  zero : List Value
  fs : List (Nat × Nat × Bool)
  elem : Option Nat
  iface : Bool
def aggD : TypeDesc → Bool
  | .struct _ => true
  | .array _ _ => true
  | _ => false
def fszD (P : Program) (t : TypeId) : Nat :=
  match P.info? t, P.underlying t with
  | some i, some _ => i.size
  | _, _ => 0
theorem fszD_spec {P : Program} {t : TypeId} (h : ¬ fszD P t = 0) : ∃ i u, P.info? t = some i ∧ P.underlying t = some u ∧ fszD P t = i.size := by
  unfold fszD at *
  split at h
  · rename_i i u hi hu; exact ⟨i, u, hi, hu, by rfl⟩
  · exact absurd rfl h
def fsD (P : Program) : TypeDesc → List (Nat × Nat × Bool)
  | .struct fs => fs.toList.map fun f => (f.offset, fszD P f.type, ((P.underlying f.type).map aggD).getD false)
  | _ => []
def elemD : TypeDesc → Option Nat
  | .slice e => some e
  | _ => none
def ifaceD : TypeDesc → Bool
  | .interface _ => true
  | _ => false
def TI (P : Program) (t : TypeId) : Option TInfo :=
  match P.underlying t, P.info? t with
  | some u, some i => match i.zero with
    | some z => some { agg := aggD u, size := i.size, bytes := i.bytes, zero := z.cells.toList, fs := fsD P u, elem := elemD u, iface := ifaceD u }
    | none => none
  | _, _ => none
theorem TI_spec {P : Program} {t : TypeId} {i : TInfo} (h : TI P t = some i) : ∃ u j z, P.underlying t = some u ∧ P.info? t = some j ∧ j.zero = some z ∧
    i = { agg := aggD u, size := j.size, bytes := j.bytes, zero := z.cells.toList, fs := fsD P u, elem := elemD u, iface := ifaceD u } := by
  unfold TI at h
  split at h
  · rename_i u j hu hj
    split at h
    · rename_i z hz
      cases h
      exact ⟨u, j, z, hu, hj, hz, rfl⟩
    · cases h
  · cases h
structure Res where
  v : SV
  up : Option (Nat × HE)
  fp : List Nat
  al : Bool
def hup (H : Hp) : Option (Nat × HE) → Hp
  | none => H
  | some (id, he) => upd H id (some he)
def Res.pure (v : SV) : Res := ⟨v, none, [], false⟩
/-- What a run of the operation does is what the machine says. -/
def RunOk (P : Program) (W0 : Fr) (K0 : Know) (s : Sem Next) (g : G) (H : Hp) (w : World) (r : Res) : Prop :=
  ∃ n v w' g', s.run P w = .ok n w' ∧ (n = .value v ∨ (n = .skip ∧ v = undef)) ∧ RepS g' (hup H r.up) r.v v ∧ RelH W0 K0 g' (hup H r.up) w' ∧ GLe g H g' (hup H r.up)
theorem RunOk.same {P : Program} {W0 : Fr} {K0 : Know} {s : Sem Next} {g : G} {H : Hp} {w : World} {x : SV} {fp : List Nat} {al : Bool} {v : Value} (hh : RelH W0 K0 g H w)
    (hr : s.run P w = .ok (.value v) w) (hv : RepS g H x v) : RunOk P W0 K0 s g H w ⟨x, none, fp, al⟩ :=
  ⟨_, v, w, g, hr, .inl rfl, hv, hh, GLe.refl _ _⟩
/-- A run that asks the program alone. -/
def pureRun (P : Program) {α : Type} : Sem α → Option α
  | .pure a => some a
  | .program k => pureRun P (k P)
  | .mark _ k => pureRun P k
  | _ => none
theorem pureRun_sound (P : Program) {α : Type} (w : World) : ∀ (s : Sem α) {a : α}, pureRun P s = some a → s.run P w = .ok a w := by
  intro s
  induction s with
  | pure a => intro b h; simp [pureRun] at h; subst h; rfl
  | program k ih => intro b h; simp only [pureRun] at h; simp only [Sem.run]; exact ih P h
  | mark m k ih => intro b h; simp only [pureRun] at h; simp only [Sem.run]; exact ih h
  | _ => intro b h; simp [pureRun] at h
def CV.exact : CV → Option Value
  | .d (.val v) => some v
  | _ => none
def SV.exact : SV → Option Value
  | .c x => x.exact
  | .agg cs => match mapO CV.exact cs with
    | some vs => some (.agg vs.toArray)
    | none => none
theorem CV.exact_rep {g : G} {H : Hp} {x : CV} {v u : Value} (h : RepC g H x v) (hx : x.exact = some u) : v = u := by
  cases x with
  | d x =>
    cases x with
    | val z => simp [CV.exact] at hx; subst hx; cases h; rfl
    | _ => simp [CV.exact] at hx
  | _ => simp [CV.exact] at hx
theorem SV.exact_rep {g : G} {H : Hp} {x : SV} {v u : Value} (h : RepS g H x v) (hx : x.exact = some u) : v = u := by
  cases x with
  | c x => exact CV.exact_rep h hx
  | agg cs =>
    simp only [SV.exact] at hx
    split at hx
    · rename_i us hus
      cases hx
      obtain ⟨vs, rfl, hr, _⟩ := h
      obtain ⟨h1, h2⟩ := mapO_get hus
      congr 1
      have hlen : us.length = vs.length := h1.trans hr.1
      have : vs = us := by
        apply List.ext_getElem hlen.symm
        intro j hj hj'
        obtain ⟨c, hc, hce⟩ := h2 j us[j] (List.getElem?_eq_getElem hj')
        exact CV.exact_rep (hr.2 j c vs[j] hc (List.getElem?_eq_getElem hj)) hce
      rw [this]
    · cases hx
/-! Scalars -/
def sc (P : Program) (s : Sem Value) : Option Res :=
  match pureRun P s with
  | some v => some (Res.pure (ofV v))
  | none => none
def vN (s : Sem Value) : Sem Next := do pure (.value (← s))
theorem vN_run (P : Program) (s : Sem Value) (w : World) : (vN s).run P w = (s.run P w).andThen fun v w' => .ok (.value v) w' := by
  unfold vN; simp
theorem ok_sc {P : Program} {W0 : Fr} {K0 : Know} {s : Sem Value} {g : G} {H : Hp} {w : World} {r : Res} (hh : RelH W0 K0 g H w) (h : sc P s = some r) : RunOk P W0 K0 (vN s) g H w r := by
  unfold sc at h
  split at h
  · rename_i v hv
    cases h
    exact RunOk.same hh (by rw [vN_run, pureRun_sound P w s hv]; rfl) (ofV_rep _ _ _)
  · cases h
/-! Loads -/
def ldv (P : Program) (t : TypeId) (cs : List CV) (off : Nat) : Option SV :=
  match TI P t with
  | some i => if i.agg then (if off + i.size ≤ cs.length then some (.agg ((cs.drop off).take i.size)) else none)
    else match cs[off]? with
      | some c => some (.c c)
      | none => none
  | none => none
theorem run_isAgg {P : Program} {t : TypeId} {u : TypeDesc} (h : P.underlying t = some u) (w : World) : (isAgg t).run P w = .ok (aggD u) w := by
  unfold isAgg
  simp only [Sem.run_bind, run_underlying h, Result.andThen_ok]
  cases u <;> rfl
theorem run_sizeOf {P : Program} {t : TypeId} {j : TypeInfo} (h : P.info? t = some j) (w : World) : (sizeOf t).run P w = .ok j.size w := by
  simp [sizeOf, typeInfo, h]
theorem run_loadAt_cells {P : Program} {t : TypeId} {w : World} {b o : Nat} {vs : List Value} {cs : List CV} {off : Nat} {g : G} {H : Hp} {x : SV}
    (hc : ∀ (j : Nat) v, vs[j]? = some v → w.cell? ⟨b, o + j, none⟩ = some v) (hr : RepCs g H cs vs) (h1 : ∀ u ∈ vs, u.oneCell' = true) (h : ldv P t cs off = some x) :
    ∃ v, (Instr.loadAt t (.pointer (some ⟨b, o + off, none⟩))).run P w = .ok v w ∧ RepS g H x v := by
  unfold ldv at h
  split at h
  · rename_i i hi
    obtain ⟨u, j, z, hu, hj, hz, rfl⟩ := TI_spec hi
    simp only at h
    split at h
    · rename_i hagg
      split at h
      · rename_i hlen
        cases h
        have hl : (vs.drop off).length ≥ j.size := by simp; have := hr.1; omega
        have hload := run_loadCells_list (P := P) w (⟨b, o + off, none⟩ : Addr) ((vs.drop off).take j.size) (fun k v hk => by
          rw [Addr.add_lit]
          rw [List.getElem?_take] at hk
          split at hk
          · rw [List.getElem?_drop] at hk
            have := hc _ _ hk
            rw [show o + off + k = o + (off + k) from by omega]; exact this
          · cases hk)
        rw [show ((vs.drop off).take j.size).length = j.size from by simp; have := hr.1; omega] at hload
        refine ⟨.agg ((vs.drop off).take j.size).toArray, ?_, _, rfl, ⟨by simp [hr.1], fun k c v hk hv => ?_⟩, fun u hu => h1 u (List.mem_of_mem_drop (List.mem_of_mem_take hu))⟩
        · unfold Instr.loadAt Instr.sureAddr loadVar
          simp only [Sem.run_bind, Sem.run_pure, Result.andThen_ok, run_isAgg hu, hagg, if_true, run_sizeOf hj, hload]
        · rw [List.getElem?_take] at hk hv
          split at hk
          · rename_i hkl
            rw [if_pos hkl] at hv
            rw [List.getElem?_drop] at hk hv
            exact hr.2 _ _ _ hk hv
          · cases hk
      · cases h
    · rename_i hagg
      split at h
      · rename_i c hcc
        cases h
        have hlt : off < vs.length := by have := (List.getElem?_eq_some_iff.1 hcc).1; have := hr.1; omega
        have hcell := hc off vs[off] (List.getElem?_eq_getElem hlt)
        refine ⟨vs[off], ?_, hr.2 off c _ hcc (List.getElem?_eq_getElem hlt)⟩
        unfold Instr.loadAt Instr.sureAddr loadVar
        rw [Bool.not_eq_true] at hagg
        simp only [Sem.run_bind, Sem.run_pure, Result.andThen_ok, run_isAgg hu, hagg]
        simp [hcell]
      · cases h
  · cases h
def aLd (P : Program) (t : TypeId) (H : Hp) : SV → Option Res
  | .c (.own id off) => match H id with
    | some (.cells cs) => match ldv P t cs off with
      | some x => some ⟨x, none, [id], false⟩
      | none => none
    | some (.froz ds) => match ldv P t (ds.map .d) off with
      | some x => some ⟨x, none, [id], false⟩
      | none => none
    | _ => none
  | .c (.d (.ptr ds off)) => match ldv P t (ds.map .d) off with
    | some x => some (Res.pure x)
    | none => none
  | _ => none
theorem RepL.cs {g : G} {ds : List D} {vs : List Value} (h : RepL g.K ds vs) (H : Hp) : RepCs g H (ds.map .d) vs :=
  ⟨by simpa using h.1, fun j x v hx hv => by
    simp only [List.getElem?_map, Option.map_eq_some_iff] at hx
    obtain ⟨y, hy, rfl⟩ := hx
    exact h.2 j y v hy hv⟩
theorem cell_of_cells {w : World} {b : Nat} {vs : List Value} {t : TypeId} {fr : Nat × Nat} (h : w.heap[b]? = some (.cells vs.toArray t fr)) (j : Nat) : w.cell? ⟨b, j, none⟩ = vs[j]? := by
  simp [World.cell?, h]
theorem load_run {P : Program} {W0 : Fr} {K0 : Know} {g : G} {H : Hp} {w : World} {r : Res} {t : TypeId} {x : SV} {v : Value} (hh : RelH W0 K0 g H w) (hx : RepS g H x v) (h : aLd P t H x = some r) :
    ∃ u, (Instr.loadAt t v).run P w = .ok u w ∧ RepS g H r.v u ∧ r.up = none := by
  unfold aLd at h
  split at h
  · rename_i id off
    obtain ⟨b, hb, rfl, hnr⟩ := hx
    split at h
    · rename_i cs hcs
      obtain ⟨b', vs, t', hb', hheap, hr, h1, hk⟩ := hh.holds id _ hcs
      rw [hb] at hb'; cases hb'
      split at h
      · rename_i y hy
        cases h
        obtain ⟨u, hu, hru⟩ := run_loadAt_cells (P := P) (w := w) (b := b) (o := 0) (fun j v hj => by rw [Nat.zero_add, cell_of_cells hheap]; exact hj) hr h1 hy
        rw [Nat.zero_add] at hu
        exact ⟨u, hu, hru, rfl⟩
      · cases h
    · rename_i ds hds
      obtain ⟨b', vs, hb', hr, h1, hk⟩ := hh.holds id _ hds
      rw [hb] at hb'; cases hb'
      split at h
      · rename_i y hy
        cases h
        obtain ⟨u, hu, hru⟩ := run_loadAt_cells (P := P) (w := w) (b := b) (o := 0) (fun j v hj => by rw [Nat.zero_add]; exact hh.kw _ _ _ (hk j v hj)) (hr.cs H) h1 hy
        rw [Nat.zero_add] at hu
        exact ⟨u, hu, hru, rfl⟩
      · cases h
    · cases h
  · rename_i ds off
    split at h
    · rename_i y hy
      cases h
      generalize hpd : D.ptr ds off = pd at hx
      cases hx with
      | ptr hl hv h1 hk =>
        cases hpd
        obtain ⟨u, hu, hru⟩ := run_loadAt_cells (P := P) (w := w) (fun j v hj => hh.kw _ _ _ (hk j v hj)) (RepL.cs (g := g) ⟨hl, hv⟩ H) h1 hy
        exact ⟨u, hu, hru, rfl⟩
      | _ => cases hpd
    · cases h
  · cases h
theorem ok_load {P : Program} {W0 : Fr} {K0 : Know} {g : G} {H : Hp} {w : World} {r : Res} {t : TypeId} {x : SV} {v : Value} (hh : RelH W0 K0 g H w) (hx : RepS g H x v) (h : aLd P t H x = some r) :
    RunOk P W0 K0 (vN (Instr.loadAt t v)) g H w r := by
  obtain ⟨u, h1, h2, h3⟩ := load_run (P := P) hh hx h
  obtain ⟨rv, ru, rf, ra⟩ := r
  simp only at h3
  subst h3
  exact RunOk.same hh (by rw [vN_run, h1]; rfl) h2
/-! Addresses of fields and elements; parts of values -/
def aFd (P : Program) (s : TypeId) (f : Nat) : SV → Option Res
  | .c (.own id off) => match TI P s with
    | some i => match i.fs[f]? with
      | some (o, z, _) => if z = 0 then none else some (Res.pure (.c (.own id (off + o))))
      | none => none
    | none => none
  | .c (.d (.ptr ds off)) => match TI P s with
    | some i => match i.fs[f]? with
      | some (o, z, _) => if z = 0 then none else some (Res.pure (.c (.d (.ptr ds (off + o)))))
      | none => none
    | none => none
  | _ => none
theorem fsD_spec {P : Program} {u : TypeDesc} {f : Nat} {x : Nat × Nat × Bool} (h : (fsD P u)[f]? = some x) : ∃ fs fd, u = .struct fs ∧ fs[f]? = some fd ∧ x = (fd.offset, fszD P fd.type, ((P.underlying fd.type).map aggD).getD false) := by
  cases u with
  | struct fs =>
    simp only [fsD, List.getElem?_map, Option.map_eq_some_iff] at h
    obtain ⟨fd, h1, h2⟩ := h
    exact ⟨fs, fd, rfl, by simpa using h1, h2.symm⟩
  | _ => simp [fsD] at h
theorem run_fieldAt_own {P : Program} {s : TypeId} {i : TInfo} {f o z : Nat} {ag : Bool} (hi : TI P s = some i) (hf : i.fs[f]? = some (o, z, ag)) (hz : ¬ z = 0) (b off : Nat) (w : World) :
    (Instr.fieldAt s (.pointer (some ⟨b, off, none⟩)) f).run P w = .ok (.pointer (some ⟨b, off + o, none⟩)) w := by
  obtain ⟨u, j, zz, hu, hj, hzz, rfl⟩ := TI_spec hi
  obtain ⟨fs, fd, rfl, hfd, hx⟩ := fsD_spec hf
  simp only [Prod.mk.injEq] at hx
  obtain ⟨rfl, rfl, _⟩ := hx
  obtain ⟨k, ud, hinf, hun, hk⟩ := fszD_spec hz
  unfold Instr.fieldAt
  simp only [Sem.run_bind, run_underlying hu, Result.andThen_ok, hfd]
  simp [Instr.sureAddr, fieldPlace, run_sizeOf hinf, Addr.add_lit, show ¬ k.size = 0 from by omega]
theorem ok_field_addr {P : Program} {W0 : Fr} {K0 : Know} {g : G} {H : Hp} {w : World} {r : Res} {s : TypeId} {f : Nat} {x : SV} {v : Value} (hh : RelH W0 K0 g H w) (hx : RepS g H x v) (h : aFd P s f x = some r) :
    RunOk P W0 K0 (vN (Instr.fieldAt s v f)) g H w r := by
  unfold aFd at h
  split at h
  · rename_i id off
    obtain ⟨b, hb, rfl, hnr⟩ := hx
    split at h
    · rename_i i hi
      split at h
      · rename_i o z ag hf
        split at h
        · cases h
        · rename_i hz
          cases h
          exact RunOk.same hh (by rw [vN_run, run_fieldAt_own hi hf hz]; rfl) ⟨b, hb, rfl, hnr⟩
      · cases h
    · cases h
  · rename_i ds off
    split at h
    · rename_i i hi
      split at h
      · rename_i o z ag hf
        split at h
        · cases h
        · rename_i hz
          cases h
          generalize hpd : D.ptr ds off = pd at hx
          cases hx with
          | ptr hl hv h1 hk =>
            cases hpd
            refine RunOk.same hh (by rw [vN_run, run_fieldAt_own hi hf hz]; rfl) ?_
            have := Rep.ptr (K := g.K) (off := off + o) hl hv h1 hk
            rw [← Nat.add_assoc] at this
            exact this
          | _ => cases hpd
      · cases h
    · cases h
  · cases h
def aPt (P : Program) (t : TypeId) (f : Nat) : SV → Option Res
  | .agg cs => match TI P t with
    | some i => match i.fs[f]? with
      | some (o, z, true) => if z = 0 then none else if o + z ≤ cs.length then some (Res.pure (.agg ((cs.drop o).take z))) else none
      | some (o, z, false) => if z = 0 then none else match cs[o]? with
        | some c => some (Res.pure (.c c))
        | none => none
      | none => none
    | none => none
  | _ => none
theorem ok_part {P : Program} {W0 : Fr} {K0 : Know} {g : G} {H : Hp} {w : World} {r : Res} {t : TypeId} {f : Nat} {x : SV} {v : Value} (hh : RelH W0 K0 g H w) (hx : RepS g H x v) (h : aPt P t f x = some r) :
    RunOk P W0 K0 (vN (Instr.field t v f)) g H w r := by
  unfold aPt at h
  split at h
  · rename_i cs
    obtain ⟨vs, rfl, hr, h1⟩ := hx
    split at h
    · rename_i i hi
      obtain ⟨u, j, zz, hu, hj, hzz, rfl⟩ := TI_spec hi
      split at h
      · rename_i o z hf
        split at h
        · cases h
        · rename_i hz
          split at h
          · rename_i hlen
            cases h
            obtain ⟨fs, fd, rfl, hfd, hx⟩ := fsD_spec hf
            simp only [Prod.mk.injEq] at hx
            obtain ⟨rfl, rfl, hag⟩ := hx
            obtain ⟨k, ud, hinf, hun, hk⟩ := fszD_spec hz
            rw [hun] at hag
            simp at hag
            have hlen' := hr.1
            refine RunOk.same hh (v := .agg ((vs.drop fd.offset).take (fszD P fd.type)).toArray) ?_ ⟨_, rfl, ⟨by simp [hr.1], fun k c v hk hv => ?_⟩, fun u hu => h1 u (List.mem_of_mem_drop (List.mem_of_mem_take hu))⟩
            · rw [vN_run]
              unfold Instr.field
              simp only [Sem.run_bind, run_underlying hu, Result.andThen_ok, hfd]
              simp only [asAgg, part, Sem.run_bind, Sem.run_pure, Result.andThen_ok, run_isAgg hun, ← hag, if_true, run_sizeOf hinf]
              congr 3
              apply Array.ext'
              simp [hk, List.extract_eq_take_drop]
            · rw [List.getElem?_take] at hk hv
              split at hk
              · rename_i hkl
                rw [if_pos hkl] at hv
                rw [List.getElem?_drop] at hk hv
                exact hr.2 _ _ _ hk hv
              · cases hk
          · cases h
      · rename_i o z hf
        split at h
        · cases h
        · rename_i hz
          split at h
          · rename_i c hcc
            cases h
            obtain ⟨fs, fd, rfl, hfd, hx⟩ := fsD_spec hf
            simp only [Prod.mk.injEq] at hx
            obtain ⟨rfl, rfl, hag⟩ := hx
            obtain ⟨k, ud, hinf, hun, hk⟩ := fszD_spec hz
            rw [hun] at hag
            simp at hag
            have hlt : fd.offset < vs.length := by have := (List.getElem?_eq_some_iff.1 hcc).1; have := hr.1; omega
            refine RunOk.same hh (v := vs[fd.offset]) ?_ (hr.2 _ c _ hcc (List.getElem?_eq_getElem hlt))
            rw [vN_run]
            unfold Instr.field
            simp only [Sem.run_bind, run_underlying hu, Result.andThen_ok, hfd]
            simp only [asAgg, part, Sem.run_bind, Sem.run_pure, Result.andThen_ok, run_isAgg hun, hag]
            simp [List.getElem?_eq_getElem hlt]
          · cases h
      · cases h
    · cases h
  · cases h
end Go.Proofs.YtepcpdionlfkhaaGreatDoor
namespace Go.Proofs.YtepcpdionlfkhaaGreatDoor
open Go Go.RowKit
set_option linter.unusedVariables false
set_option linter.unusedSimpArgs false
theorem KW.lt {K : Know} {w : World} (h : KW K w) {b o : Nat} (hb : w.heap.size ≤ b) : K b o = none := by
  cases hk : K b o with
  | none => rfl
  | some v =>
    have := h b o v hk
    simp [World.cell?, Array.getElem?_eq_none hb] at this
theorem lt_of_heap {w : World} {b : Nat} {o : Obj} (h : w.heap[b]? = some o) : b < w.heap.size := (Array.getElem?_eq_some_iff.1 h).1
/-- Nothing but K has grown. -/
theorem GLe.ofK {g : G} {H : Hp} {K' : Know} (h : KLe g.K K') : GLe g H { g with K := K' } H := by
  intro x v r
  cases x with
  | any => trivial
  | d x => exact Rep.mono h r
  | own id off => exact r
  | app τ sz xs => exact ⟨r.1.mono h, r.2⟩
  | full sz xs => exact ⟨r.1.mono h, r.2⟩
  | view id sz off len => exact r
  | clo f caps => exact clo_mono r h (fun _ _ _ r => r)
  | bnd f caps => exact bnd_mono r h (fun _ _ _ r => r)
  | yld i => exact yld_mono r (fun _ _ _ r => r)
  | mt τ k => exact mut_same (fun _ _ _ _ _ h => ⟨h, rfl, rfl⟩) r
  | mpt τ k o => exact mpt_same (fun _ _ _ _ _ h => ⟨h, rfl, rfl⟩) r
  | mp i => exact mp_mono r (fun _ _ _ r => r)
/-- New blocks alone, and knowledge of them. -/
theorem RelH.grow {W0 : Fr} {K0 : Know} {g : G} {H : Hp} {w w' : World} {K' : Know} (hh : RelH W0 K0 g H w) (hb : Below w.heap.size w w') (he : Ext g.K K' w.heap.size) (hk : KW K' w') :
    RelH W0 K0 { g with K := K' } H w' := by
  have hle := GLe.ofK (g := g) (H := H) he.1
  refine ⟨hh.below.trans hb, hh.ext.trans he hh.below.size, hk, fun id e hid => ?_, hh.base, hh.dom, hh.sep, fun id b h => Nat.lt_of_lt_of_le (hh.frozlt id b h) hb.size, hh.glob, hh.lent.trans hle⟩
  have := hh.holds id e hid
  cases e with
  | cells cs =>
    obtain ⟨b, vs, t, hβ, hheap, hr, h1, hn⟩ := this
    exact ⟨b, vs, t, hβ, (hb.block b (lt_of_heap hheap)).trans hheap, hr.mono hle, h1, fun o => by
      show K' b o = none
      rw [he.2 b o (lt_of_heap hheap)]; exact hn o⟩
  | obj o =>
    obtain ⟨b, hβ, hheap, hn⟩ := this
    exact ⟨b, hβ, (hb.block b (lt_of_heap hheap)).trans hheap, fun o => by
      show K' b o = none
      rw [he.2 b o (lt_of_heap hheap)]; exact hn o⟩
  | froz ds =>
    obtain ⟨b, vs, hβ, hr, h1, hn⟩ := this
    exact ⟨b, vs, hβ, hr.mono he.1, h1, fun j v hj => he.1 _ _ _ (hn j v hj)⟩
  | mrow e sz n cs => exact mrow_holds this rfl rfl (fun b o h1 h2 => (hb.block b (lt_of_heap h2)).trans h2) hle (fun b o _ h1 h2 => by show K' b o = none; rw [he.2 b o h2]; exact h1)
  | ob cs p => exact ob_holds this rfl rfl (fun b o h1 h2 => (hb.block b (lt_of_heap h2)).trans h2) hle (fun b o _ h1 h2 => by show K' b o = none; rw [he.2 b o h2]; exact h1)
  | row e sz n =>
    intro b hβ
    obtain ⟨cur, hheap, hsz, hcap, hn⟩ := this b hβ
    exact ⟨cur, (hb.block b (lt_of_heap hheap)).trans hheap, hsz, hcap, fun o ho => by
      show K' b o = none
      rw [he.2 b o (lt_of_heap hheap)]; exact hn o ho⟩
def Kadd (K : Know) (b : Nat) (vs : List Value) : Know := fun b' o => if b' = b then vs[o]? else K b' o
theorem Kadd_ext {K : Know} {w : World} (h : KW K w) (vs : List Value) : Ext K (Kadd K w.heap.size vs) w.heap.size := by
  refine ⟨fun b o v hv => ?_, fun b o hb => ?_⟩
  · unfold Kadd
    split
    · rename_i e; subst e
      rw [h.lt (Nat.le_refl _)] at hv; cases hv
    · exact hv
  · unfold Kadd; rw [if_neg (by omega)]
theorem heap_new (w : World) (o : Obj) : (w.alloc o).heap[w.heap.size]? = some o := by show (w.heap.push o)[w.heap.size]? = _; simp
theorem below_alloc (w : World) (o : Obj) : Below w.heap.size w (w.alloc o) := (Below.refl _ _).alloc (Nat.le_refl _) _
theorem Kadd_kw {K : Know} {w : World} (h : KW K w) (vs : List Value) (cur : Array Value) (t : TypeId) (fr : Nat × Nat) (hc : ∀ (j : Nat) v, vs[j]? = some v → cur[j]? = some v) : KW (Kadd K w.heap.size vs) (w.alloc (.cells cur t fr)) := by
  intro b o v hv
  unfold Kadd at hv
  split at hv
  · rename_i e; subst e
    simp only [World.cell?, heap_new]
    simpa using hc o v hv
  · rename_i hne
    have h0 := h b o v hv
    have hlt : b < w.heap.size := by
      rcases Nat.lt_or_ge b w.heap.size with h' | h'
      · exact h'
      · rw [h.lt h'] at hv; cases hv
    rw [← h0]
    exact (below_alloc w _).cell (p := ⟨b, o, none⟩) hlt
/-- A new box. -/
theorem RelH.box {W0 : Fr} {K0 : Know} {g : G} {H : Hp} {w : World} {cs : List CV} {vs : List Value} {id : Nat} (t : TypeId) (hh : RelH W0 K0 g H w) (hid : H id = none) (hr : RepCs g H cs vs) (h1 : ∀ u ∈ vs, u.oneCell' = true) :
    RelH W0 K0 { g with β := upd g.β id (some w.heap.size) } (upd H id (some (.cells cs))) (w.alloc (.cells vs.toArray t)) ∧ GLe g H { g with β := upd g.β id (some w.heap.size) } (upd H id (some (.cells cs))) := by
  have hβ : g.β id = none := hh.dom id hid
  have hle : GLe g H { g with β := upd g.β id (some w.heap.size) } (upd H id (some (.cells cs))) := by
    have ho : ∀ i off v, RepC g H (.own i off) v → RepC { g with β := upd g.β id (some w.heap.size) } (upd H id (some (.cells cs))) (.own i off) v := by
      rintro i off v ⟨b, hb, rfl, hnr⟩
      have hne : i ≠ id := fun e => by subst e; rw [hβ] at hb; cases hb
      exact ⟨b, by show upd _ _ _ _ = _; rw [upd_ne _ _ hne]; exact hb, rfl, by rw [upd_ne _ _ hne]; exact hnr⟩
    intro x v r
    cases x with
    | any => trivial
    | d x => exact r
    | clo f caps => exact clo_mono r (KLe.refl _) ho
    | bnd f caps => exact bnd_mono r (KLe.refl _) ho
    | yld i => exact yld_mono r ho
    | mt τ k => exact mut_same (MLe.upd (fun _ _ _ _ h => by rw [hid] at h; cases h) (fun i h => upd_ne _ _ h) (fun _ _ => rfl)) r
    | mpt τ k o => exact mpt_same (MLe.upd (fun _ _ _ _ h => by rw [hid] at h; cases h) (fun i h => upd_ne _ _ h) (fun _ _ => rfl)) r
    | mp i => exact mp_mono r ho
    | own i off => exact ho i off v r
    | app τ sz xs =>
      obtain ⟨r1, e, n, hrow, hle, hf⟩ := r
      have hne : τ ≠ id := fun e => by subst e; rw [hid] at hrow; cases hrow
      refine ⟨r1, e, n, by rw [upd_ne _ _ hne]; exact hrow, hle, fun hn => ?_⟩
      rcases hf hn with h4 | ⟨b, hb, hv⟩
      · exact .inl h4
      · exact .inr ⟨b, by show upd _ _ _ _ = _; rw [upd_ne _ _ hne]; exact hb, hv⟩
    | full sz xs => exact r
    | view i sz off len =>
      obtain ⟨b, c, hb, rfl, hc, hnr⟩ := r
      have hne : i ≠ id := fun e => by subst e; rw [hβ] at hb; cases hb
      exact ⟨b, c, by show upd _ _ _ _ = _; rw [upd_ne _ _ hne]; exact hb, rfl, hc, by rw [upd_ne _ _ hne]; exact hnr⟩
  have hb := below_alloc w (.cells vs.toArray t)
  have hused := hh.frozlt
  refine ⟨⟨hh.below.trans hb, hh.ext, ?_, ?_, ?_, ?_, ?_, ?_, hh.glob, hh.lent.trans hle⟩, hle⟩
  · intro b o v hv
    have h0 := hh.kw b o v hv
    have : b < w.heap.size := by
      rcases Nat.lt_or_ge b w.heap.size with h' | h'
      · exact h'
      · rw [hh.kw.lt h'] at hv; cases hv
    rw [← h0]; exact hb.cell (p := ⟨b, o, none⟩) this
  · intro i e hi
    by_cases hne : i = id
    · subst hne
      rw [upd_same] at hi
      cases hi
      exact ⟨w.heap.size, vs, t, upd_same _ _ _, heap_new w _, hr.mono hle, h1, fun o => hh.kw.lt (Nat.le_refl _)⟩
    · rw [upd_ne _ _ hne] at hi
      have := hh.holds i e hi
      cases e with
      | cells cs =>
        obtain ⟨b, vs', t', hβi, hheap, hr', h1', hn⟩ := this
        exact ⟨b, vs', t', (upd_ne _ _ hne).trans hβi, (hb.block b (lt_of_heap hheap)).trans hheap, hr'.mono hle, h1', hn⟩
      | obj o =>
        obtain ⟨b, hβi, hheap, hn⟩ := this
        exact ⟨b, (upd_ne _ _ hne).trans hβi, (hb.block b (lt_of_heap hheap)).trans hheap, hn⟩
      | froz ds =>
        obtain ⟨b, vs', hβi, hr', h1', hn⟩ := this
        exact ⟨b, vs', (upd_ne _ _ hne).trans hβi, hr', h1', hn⟩
      | mrow e sz n cs => exact mrow_holds this (upd_ne _ _ hne) rfl (fun b o h1 h2 => (hb.block b (lt_of_heap h2)).trans h2) hle (fun b o _ h1 _ => h1)
      | ob cs p => exact ob_holds this (upd_ne _ _ hne) rfl (fun b o h1 h2 => (hb.block b (lt_of_heap h2)).trans h2) hle (fun b o _ h1 _ => h1)
      | row e sz n =>
        intro b hβi
        have hβi' : g.β i = some b := (upd_ne g.β (some w.heap.size) hne).symm.trans hβi
        obtain ⟨cur, hheap, r⟩ := this b hβi'
        exact ⟨cur, (hb.block b (lt_of_heap hheap)).trans hheap, r⟩
  · intro i b hβi
    by_cases hne : i = id
    · subst hne
      have : some w.heap.size = some b := (upd_same g.β i (some w.heap.size)).symm.trans hβi
      cases this; exact Fr.new hh.below.size
    · exact hh.base i b ((upd_ne g.β (some w.heap.size) hne).symm.trans hβi)
  · intro i hi
    by_cases hne : i = id
    · subst hne; rw [upd_same] at hi; cases hi
    · rw [upd_ne _ _ hne] at hi
      exact (upd_ne _ _ hne).trans (hh.dom i hi)
  · intro i j b hi hj
    have key : ∀ i, upd g.β id (some w.heap.size) i = some b → (i = id ∧ b = w.heap.size) ∨ (i ≠ id ∧ g.β i = some b) := by
      intro i hi
      by_cases hne : i = id
      · subst hne; rw [upd_same] at hi; cases hi; exact .inl ⟨rfl, rfl⟩
      · rw [upd_ne _ _ hne] at hi; exact .inr ⟨hne, hi⟩
    rcases key i hi with ⟨rfl, rfl⟩ | ⟨h1, h2⟩
    · rcases key j hj with ⟨rfl, _⟩ | ⟨h3, h4⟩
      · rfl
      · have := hused j _ h4; omega
    · rcases key j hj with ⟨rfl, rfl⟩ | ⟨h3, h4⟩
      · have := hused i _ h2; omega
      · exact hh.sep i j b h2 h4
  · intro i b hβi
    by_cases hne : i = id
    · subst hne
      have : some w.heap.size = some b := (upd_same g.β i (some w.heap.size)).symm.trans hβi
      cases this; exact lt_of_heap (heap_new w _)
    · have := hused i b ((upd_ne g.β (some w.heap.size) hne).symm.trans hβi)
      have := hb.size; omega
/-- Of a box that is no row nothing but its content turns. -/
theorem GLe.box {g : G} {H : Hp} {id : Nat} {he : HE} (hid : isRow (H id) = false) (hr : isRow (some he) = false) : GLe g H g (upd H id (some he)) := by
  intro x v r
  have key : ∀ i, isRow (H i) = false → isRow (upd H id (some he) i) = false := fun i hi => by
    by_cases h : i = id
    · subst h; rw [upd_same]; exact hr
    · rw [upd_ne _ _ h]; exact hi
  cases x with
  | app τ sz xs =>
    obtain ⟨r1, e, n, hrow, hle, hf⟩ := r
    have hne : τ ≠ id := fun e => by subst e; rw [hrow] at hid; simp [isRow] at hid
    exact ⟨r1, e, n, by rw [upd_ne _ _ hne]; exact hrow, hle, hf⟩
  | own i off => obtain ⟨b, hb, rfl, hnr⟩ := r; exact ⟨b, hb, rfl, key i hnr⟩
  | clo f caps => exact clo_mono r (KLe.refl _) (fun i off v ⟨b, hb, hv, hnr⟩ => ⟨b, hb, hv, key i hnr⟩)
  | bnd f caps => exact bnd_mono r (KLe.refl _) (fun i off v ⟨b, hb, hv, hnr⟩ => ⟨b, hb, hv, key i hnr⟩)
  | yld i => exact yld_mono r (fun i off v ⟨b, hb, hv, hnr⟩ => ⟨b, hb, hv, key i hnr⟩)
  | mt τ k => exact mut_same (MLe.upd (fun _ _ _ _ h => by rw [h] at hid; simp [isRow] at hid) (fun _ _ => rfl) (fun _ _ => rfl)) r
  | mpt τ k o => exact mpt_same (MLe.upd (fun _ _ _ _ h => by rw [h] at hid; simp [isRow] at hid) (fun _ _ => rfl) (fun _ _ => rfl)) r
  | mp i => exact mp_mono r (fun i off v ⟨b, hb, hv, hnr⟩ => ⟨b, hb, hv, key i hnr⟩)
  | view i sz off len => obtain ⟨b, c, hb, rfl, hc, hnr⟩ := r; exact ⟨b, c, hb, rfl, hc, key i hnr⟩
  | _ => exact r
/-- A box is written. -/
theorem RelH.write {W0 : Fr} {K0 : Know} {g : G} {H : Hp} {w : World} {cs : List CV} {vs vs' : List Value} {cs' : List CV} {id b : Nat} {t : TypeId} (hh : RelH W0 K0 g H w) (hid : H id = some (.cells cs)) (hβ : g.β id = some b)
    (hheap : w.heap[b]? = some (.cells vs.toArray t (0, 0))) (hn : ∀ o, g.K b o = none) (hr : RepCs g H cs' vs') (h1 : ∀ u ∈ vs', u.oneCell' = true) :
    RelH W0 K0 g (upd H id (some (.cells cs'))) (w.setRow b vs'.toArray) ∧ GLe g H g (upd H id (some (.cells cs'))) := by
  have hle : GLe g H g (upd H id (some (.cells cs'))) := by
    intro x v r
    exact GLe.box (by rw [hid]; rfl) (by rfl) x v r
  have hset := setRow_heap w b vs.toArray vs'.toArray t (0, 0) hheap
  have hoth : ∀ k, k ≠ b → (w.setRow b vs'.toArray).heap[k]? = w.heap[k]? := fun k hk => setRow_other w b k vs'.toArray hk
  have hsz : (w.setRow b vs'.toArray).heap.size = w.heap.size := by simp [World.setRow]
  refine ⟨⟨⟨hh.below.os, hh.below.tape, hh.below.output, by rw [hsz]; exact hh.below.size, fun k hk => by rw [hoth k (Fr.ne hk (hh.base id b hβ))]; exact hh.below.block k hk⟩, hh.ext, ?_, ?_, hh.base, ?_, hh.sep, ?_, hh.glob, hh.lent.trans hle⟩, hle⟩
  · intro b' o v hv
    have hne : b' ≠ b := fun e => by subst e; rw [hn o] at hv; cases hv
    have h0 := hh.kw b' o v hv
    rw [← h0]; exact World.cell?_of_block (hoth b' hne)
  · intro i e hi
    by_cases hne : i = id
    · subst hne
      rw [upd_same] at hi
      cases hi
      exact ⟨b, vs', t, hβ, hset, hr.mono hle, h1, hn⟩
    · rw [upd_ne _ _ hne] at hi
      have := hh.holds i e hi
      cases e with
      | cells cs =>
        obtain ⟨b', vs2, t', hβi, hheap', hr', h1', hn'⟩ := this
        exact ⟨b', vs2, t', hβi, (hoth b' (fun e => hne (hh.sep i id b (e ▸ hβi) hβ))).trans hheap', hr'.mono hle, h1', hn'⟩
      | obj o =>
        obtain ⟨b', hβi, hheap', hn'⟩ := this
        exact ⟨b', hβi, (hoth b' (fun e => hne (hh.sep i id b (e ▸ hβi) hβ))).trans hheap', hn'⟩
      | froz ds => exact this
      | mrow e sz n cs => exact mrow_holds this rfl rfl (fun b' o h1 h2 => (hoth b' (fun e => hne (hh.sep i id b (e ▸ h1) hβ))).trans h2) hle (fun b o _ h1 _ => h1)
      | ob cs p => exact ob_holds this rfl rfl (fun b' o h1 h2 => (hoth b' (fun e => hne (hh.sep i id b (e ▸ h1) hβ))).trans h2) hle (fun b o _ h1 _ => h1)
      | row e sz n =>
        intro b' hβi
        obtain ⟨cur, hheap', r⟩ := this b' hβi
        exact ⟨cur, (hoth b' (fun e => hne (hh.sep i id b (e ▸ hβi) hβ))).trans hheap', r⟩
  · intro i hi
    by_cases hne : i = id
    · subst hne; rw [upd_same] at hi; cases hi
    · rw [upd_ne _ _ hne] at hi
      exact hh.dom i hi
  · intro i b' hb'; rw [hsz]; exact hh.frozlt i b' hb'
/-- An object that is no cells is put for another. -/
theorem RelH.setObj {W0 : Fr} {K0 : Know} {g : G} {H : Hp} {w : World} {id b : Nat} {ob : Obj} (ob' : Obj) (hh : RelH W0 K0 g H w) (hid : H id = some (.obj ob)) (hβ : g.β id = some b) :
    RelH W0 K0 g (upd H id (some (.obj ob'))) (w.putObj b ob') ∧ GLe g H g (upd H id (some (.obj ob'))) := by
  have hle : GLe g H g (upd H id (some (.obj ob'))) := GLe.box (by rw [hid]; rfl) rfl
  obtain ⟨b0, hβ0, hheap, hn⟩ := hh.holds id _ hid
  rw [hβ] at hβ0; cases hβ0
  have hoth : ∀ k, k ≠ b → (w.putObj b ob').heap[k]? = w.heap[k]? := fun k hk => World.putObj_heap_other hk
  have hsz : (w.putObj b ob').heap.size = w.heap.size := World.putObj_size
  refine ⟨⟨⟨hh.below.os, hh.below.tape, hh.below.output, by rw [hsz]; exact hh.below.size, fun k hk => by rw [hoth k (Fr.ne hk (hh.base id b hβ))]; exact hh.below.block k hk⟩, hh.ext, ?_, ?_, hh.base, ?_, hh.sep, ?_, hh.glob, hh.lent.trans hle⟩, hle⟩
  · intro b' o v hv
    have hne : b' ≠ b := fun e => by subst e; rw [hn o] at hv; cases hv
    have h0 := hh.kw b' o v hv
    rw [← h0]; exact World.cell?_of_block (hoth b' hne)
  · intro i e hi
    by_cases hne : i = id
    · subst hne
      rw [upd_same] at hi
      cases hi
      exact ⟨b, hβ, World.putObj_heap_same (lt_of_heap hheap), hn⟩
    · rw [upd_ne _ _ hne] at hi
      have := hh.holds i e hi
      cases e with
      | cells cs =>
        obtain ⟨b', vs2, t', hβi, hheap', hr', h1', hn'⟩ := this
        exact ⟨b', vs2, t', hβi, (hoth b' (fun e => hne (hh.sep i id b (e ▸ hβi) hβ))).trans hheap', hr'.mono hle, h1', hn'⟩
      | froz ds => exact this
      | obj o =>
        obtain ⟨b', hβi, hheap', hn'⟩ := this
        exact ⟨b', hβi, (hoth b' (fun e => hne (hh.sep i id b (e ▸ hβi) hβ))).trans hheap', hn'⟩
      | mrow e sz n cs => exact mrow_holds this rfl rfl (fun b' o h1 h2 => (hoth b' (fun e => hne (hh.sep i id b (e ▸ h1) hβ))).trans h2) hle (fun b o _ h1 _ => h1)
      | ob cs p => exact ob_holds this rfl rfl (fun b' o h1 h2 => (hoth b' (fun e => hne (hh.sep i id b (e ▸ h1) hβ))).trans h2) hle (fun b o _ h1 _ => h1)
      | row e sz n =>
        intro b' hβi
        obtain ⟨cur, hheap', r⟩ := this b' hβi
        exact ⟨cur, (hoth b' (fun e => hne (hh.sep i id b (e ▸ hβi) hβ))).trans hheap', r⟩
  · intro i hi
    by_cases hne : i = id
    · subst hne; rw [upd_same] at hi; cases hi
    · rw [upd_ne _ _ hne] at hi
      exact hh.dom i hi
  · intro i b' hb'; rw [hsz]; exact hh.frozlt i b' hb'
/-- A new object that is no cells. -/
theorem RelH.newObj {W0 : Fr} {K0 : Know} {g : G} {H : Hp} {w : World} {id : Nat} (ob : Obj) (hh : RelH W0 K0 g H w) (hid : H id = none) :
    RelH W0 K0 { g with β := upd g.β id (some w.heap.size) } (upd H id (some (.obj ob))) (w.alloc ob) ∧ GLe g H { g with β := upd g.β id (some w.heap.size) } (upd H id (some (.obj ob))) := by
  have hβ : g.β id = none := hh.dom id hid
  have hle : GLe g H { g with β := upd g.β id (some w.heap.size) } (upd H id (some (.obj ob))) := by
    have ho : ∀ i off v, RepC g H (.own i off) v → RepC { g with β := upd g.β id (some w.heap.size) } (upd H id (some (.obj ob))) (.own i off) v := by
      rintro i off v ⟨b, hb, rfl, hnr⟩
      have hne : i ≠ id := fun e => by subst e; rw [hβ] at hb; cases hb
      exact ⟨b, by show upd _ _ _ _ = _; rw [upd_ne _ _ hne]; exact hb, rfl, by rw [upd_ne _ _ hne]; exact hnr⟩
    intro x v r
    cases x with
    | any => trivial
    | d x => exact r
    | clo f caps => exact clo_mono r (KLe.refl _) ho
    | bnd f caps => exact bnd_mono r (KLe.refl _) ho
    | yld i => exact yld_mono r ho
    | mt τ k => exact mut_same (MLe.upd (fun _ _ _ _ h => by rw [hid] at h; cases h) (fun i h => upd_ne _ _ h) (fun _ _ => rfl)) r
    | mpt τ k o => exact mpt_same (MLe.upd (fun _ _ _ _ h => by rw [hid] at h; cases h) (fun i h => upd_ne _ _ h) (fun _ _ => rfl)) r
    | mp i => exact mp_mono r ho
    | own i off => exact ho i off v r
    | app τ sz xs =>
      obtain ⟨r1, e, n, hrow, hle, hf⟩ := r
      have hne : τ ≠ id := fun e => by subst e; rw [hid] at hrow; cases hrow
      refine ⟨r1, e, n, by rw [upd_ne _ _ hne]; exact hrow, hle, fun hn => ?_⟩
      rcases hf hn with h4 | ⟨b, hb, hv⟩
      · exact .inl h4
      · exact .inr ⟨b, by show upd _ _ _ _ = _; rw [upd_ne _ _ hne]; exact hb, hv⟩
    | full sz xs => exact r
    | view i sz off len =>
      obtain ⟨b, c, hb, rfl, hc, hnr⟩ := r
      have hne : i ≠ id := fun e => by subst e; rw [hβ] at hb; cases hb
      exact ⟨b, c, by show upd _ _ _ _ = _; rw [upd_ne _ _ hne]; exact hb, rfl, hc, by rw [upd_ne _ _ hne]; exact hnr⟩
  have hb := below_alloc w ob
  have hused := hh.frozlt
  refine ⟨⟨hh.below.trans hb, hh.ext, ?_, ?_, ?_, ?_, ?_, ?_, hh.glob, hh.lent.trans hle⟩, hle⟩
  · intro b o v hv
    have h0 := hh.kw b o v hv
    have : b < w.heap.size := by
      rcases Nat.lt_or_ge b w.heap.size with h' | h'
      · exact h'
      · rw [hh.kw.lt h'] at hv; cases hv
    rw [← h0]; exact hb.cell (p := ⟨b, o, none⟩) this
  · intro i e hi
    by_cases hne : i = id
    · subst hne
      rw [upd_same] at hi
      cases hi
      exact ⟨w.heap.size, upd_same _ _ _, heap_new w _, fun o => hh.kw.lt (Nat.le_refl _)⟩
    · rw [upd_ne _ _ hne] at hi
      have := hh.holds i e hi
      cases e with
      | cells cs =>
        obtain ⟨b, vs', t', hβi, hheap, hr', h1', hn⟩ := this
        exact ⟨b, vs', t', (upd_ne _ _ hne).trans hβi, (hb.block b (lt_of_heap hheap)).trans hheap, hr'.mono hle, h1', hn⟩
      | froz ds =>
        obtain ⟨b, vs', hβi, hr', h1', hn⟩ := this
        exact ⟨b, vs', (upd_ne _ _ hne).trans hβi, hr', h1', hn⟩
      | obj o =>
        obtain ⟨b, hβi, hheap, hn⟩ := this
        exact ⟨b, (upd_ne _ _ hne).trans hβi, (hb.block b (lt_of_heap hheap)).trans hheap, hn⟩
      | mrow e sz n cs => exact mrow_holds this (upd_ne _ _ hne) rfl (fun b o h1 h2 => (hb.block b (lt_of_heap h2)).trans h2) hle (fun b o _ h1 _ => h1)
      | ob cs p => exact ob_holds this (upd_ne _ _ hne) rfl (fun b o h1 h2 => (hb.block b (lt_of_heap h2)).trans h2) hle (fun b o _ h1 _ => h1)
      | row e sz n =>
        intro b hβi
        have hβi' : g.β i = some b := (upd_ne g.β (some w.heap.size) hne).symm.trans hβi
        obtain ⟨cur, hheap, r⟩ := this b hβi'
        exact ⟨cur, (hb.block b (lt_of_heap hheap)).trans hheap, r⟩
  · intro i b hβi
    by_cases hne : i = id
    · subst hne
      have : some w.heap.size = some b := (upd_same g.β i (some w.heap.size)).symm.trans hβi
      cases this; exact Fr.new hh.below.size
    · exact hh.base i b ((upd_ne g.β (some w.heap.size) hne).symm.trans hβi)
  · intro i hi
    by_cases hne : i = id
    · subst hne; rw [upd_same] at hi; cases hi
    · rw [upd_ne _ _ hne] at hi
      exact (upd_ne _ _ hne).trans (hh.dom i hi)
  · intro i j b hi hj
    have key : ∀ i, upd g.β id (some w.heap.size) i = some b → (i = id ∧ b = w.heap.size) ∨ (i ≠ id ∧ g.β i = some b) := by
      intro i hi
      by_cases hne : i = id
      · subst hne; rw [upd_same] at hi; cases hi; exact .inl ⟨rfl, rfl⟩
      · rw [upd_ne _ _ hne] at hi; exact .inr ⟨hne, hi⟩
    rcases key i hi with ⟨rfl, rfl⟩ | ⟨h1, h2⟩
    · rcases key j hj with ⟨rfl, _⟩ | ⟨h3, h4⟩
      · rfl
      · have := hused j _ h4; omega
    · rcases key j hj with ⟨rfl, rfl⟩ | ⟨h3, h4⟩
      · have := hused i _ h2; omega
      · exact hh.sep i j b h2 h4
  · intro i b hβi
    by_cases hne : i = id
    · subst hne
      have : some w.heap.size = some b := (upd_same g.β i (some w.heap.size)).symm.trans hβi
      cases this; exact lt_of_heap (heap_new w _)
    · have := hused i b ((upd_ne g.β (some w.heap.size) hne).symm.trans hβi)
      have := hb.size; omega
/-- A box is written no more. -/
theorem RelH.freeze {W0 : Fr} {K0 : Know} {g : G} {H : Hp} {w : World} {cs : List CV} {ds : List D} {id : Nat} (hh : RelH W0 K0 g H w) (hid : H id = some (.cells cs)) (hd : mapO CV.toD0 cs = some ds) :
    ∃ g', RelH W0 K0 g' (upd H id (some (.froz ds))) w ∧ GLe g H g' (upd H id (some (.froz ds))) := by
  obtain ⟨b, vs, t, hβ, hheap, hr, h1, hn⟩ := hh.holds id _ hid
  have hkle : KLe g.K (Kadd g.K b vs) := fun b' o v hv => by
    unfold Kadd
    split
    · rename_i e; subst e; rw [hn o] at hv; cases hv
    · exact hv
  have hle : GLe g H { g with K := Kadd g.K b vs } (upd H id (some (.froz ds))) := by
    intro x v r
    have r' := GLe.ofK (g := g) (H := H) hkle x v r
    exact GLe.box (by rw [hid]; rfl) (by rfl) x v r'
  refine ⟨{ g with K := Kadd g.K b vs }, ⟨hh.below, ?_, ?_, ?_, hh.base, ?_, hh.sep, hh.frozlt, hh.glob, hh.lent.trans hle⟩, hle⟩
  · exact ⟨hh.ext.1.trans hkle, fun b' o hb' => by
      show Kadd _ _ _ _ _ = _
      unfold Kadd
      rw [if_neg (Fr.ne hb' (hh.base id b hβ))]; exact hh.ext.2 b' o hb'⟩
  · intro b' o v hv
    have hv' : Kadd g.K b vs b' o = some v := hv
    unfold Kadd at hv'
    split at hv'
    · rename_i e; subst e; rw [cell_of_cells hheap]; exact hv'
    · exact hh.kw b' o v hv'
  · intro i e hi
    by_cases hne : i = id
    · subst hne
      rw [upd_same] at hi
      cases hi
      have hL := (hr.toD0 hd).mono hkle
      exact ⟨b, vs, hβ, hL, h1, fun j v hj => by show Kadd _ _ _ _ _ = _; unfold Kadd; rw [if_pos rfl]; exact hj⟩
    · rw [upd_ne _ _ hne] at hi
      have := hh.holds i e hi
      cases e with
      | cells cs =>
        obtain ⟨b', vs2, t', hβi, hheap', hr', h1', hn'⟩ := this
        exact ⟨b', vs2, t', hβi, hheap', hr'.mono hle, h1', fun o => by
          show Kadd _ _ _ _ _ = _
          unfold Kadd; rw [if_neg (fun (e : b' = b) => hne (hh.sep i id b (e ▸ hβi) hβ))]; exact hn' o⟩
      | obj o =>
        obtain ⟨b', hβi, hheap', hn'⟩ := this
        exact ⟨b', hβi, hheap', fun o => by
          show Kadd _ _ _ _ _ = _
          unfold Kadd; rw [if_neg (fun (e : b' = b) => hne (hh.sep i id b (e ▸ hβi) hβ))]; exact hn' o⟩
      | froz ds =>
        obtain ⟨b', vs', hβi, hr', h1', hn'⟩ := this
        exact ⟨b', vs', hβi, hr'.mono hkle, h1', fun j v hj => hkle _ _ _ (hn' j v hj)⟩
      | mrow e sz n cs => exact mrow_holds this rfl rfl (fun b' o h1 h2 => h2) hle (fun b' o h1 h2 _ => by
          show Kadd _ _ _ _ _ = _
          unfold Kadd; rw [if_neg (fun (e : b' = b) => hne (hh.sep i id b (e ▸ h1) hβ))]; exact h2)
      | ob cs p => exact ob_holds this rfl rfl (fun b' o h1 h2 => h2) hle (fun b' o h1 h2 _ => by
          show Kadd _ _ _ _ _ = _
          unfold Kadd; rw [if_neg (fun (e : b' = b) => hne (hh.sep i id b (e ▸ h1) hβ))]; exact h2)
      | row e sz n =>
        intro b' hβi
        obtain ⟨cur, hheap', hs, hc, hn'⟩ := this b' hβi
        exact ⟨cur, hheap', hs, hc, fun o ho => by
          show Kadd _ _ _ _ _ = _
          unfold Kadd; rw [if_neg (fun (e : b' = b) => hne (hh.sep i id b (e ▸ hβi) hβ))]; exact hn' o ho⟩
  · intro i hi
    by_cases hne : i = id
    · subst hne; rw [upd_same] at hi; cases hi
    · rw [upd_ne _ _ hne] at hi
      exact hh.dom i hi
/-! box, alloc, store -/
def aBox (H : Hp) (nx : Nat) (x : SV) : Option Res :=
  match H nx with
  | none => match x.cells with
    | some cs => some ⟨.c (.own nx 0), some (nx, .cells cs), [nx], true⟩
    | none => none
  | some _ => none
theorem ok_box {P : Program} {W0 : Fr} {K0 : Know} {g : G} {H : Hp} {w : World} {r : Res} {t : TypeId} {nx : Nat} {x : SV} {v : Value} (hh : RelH W0 K0 g H w) (hx : RepS g H x v) (h : aBox H nx x = some r) :
    RunOk P W0 K0 (vN (Instr.box t v)) g H w r := by
  unfold aBox at h
  split at h
  · rename_i hnx
    split at h
    · rename_i cs hcs
      cases h
      obtain ⟨vs, hv, hr, h1⟩ := SV.cells_rep hx hcs
      obtain ⟨h2, h3⟩ := RelH.box t hh hnx hr h1
      refine ⟨_, .pointer (some ⟨w.heap.size, 0, none⟩), _, _, ?_, .inl rfl, ⟨w.heap.size, upd_same _ _ _, rfl, by simp [hup, upd_same, isRow]⟩, h2, h3⟩
      rw [vN_run]
      simp [Instr.box, newVar, newRow, hv]
    · cases h
  · cases h
def aAlloc (P : Program) (H : Hp) (nx : Nat) (t : TypeId) : Option Res :=
  match H nx with
  | none => match TI P t with
    | some i => if i.zero.all (·.oneCell') then some ⟨.c (.own nx 0), some (nx, .cells (i.zero.map fun v => .d (.val v))), [nx], true⟩ else none
    | none => none
  | some _ => none
theorem vals_rep (g : G) (H : Hp) (vs : List Value) : RepCs g H (vs.map fun v => .d (.val v)) vs :=
  ⟨by simp, fun j x v hx hv => by simp only [List.getElem?_map, hv, Option.map_some, Option.some.injEq] at hx; subst hx; exact Rep.val v⟩
theorem ok_alloc {P : Program} {W0 : Fr} {K0 : Know} {g : G} {H : Hp} {w : World} {r : Res} {t : TypeId} {nx : Nat} (hh : RelH W0 K0 g H w) (h : aAlloc P H nx t = some r) :
    RunOk P W0 K0 (vN (Instr.alloc t true (.tuple #[]))) g H w r := by
  unfold aAlloc at h
  split at h
  · rename_i hnx
    split at h
    · rename_i i hi
      obtain ⟨u, j, z, hu, hj, hz, rfl⟩ := TI_spec hi
      split at h
      · rename_i h1
        cases h
        obtain ⟨h2, h3⟩ := RelH.box (vs := z.cells.toList) t hh hnx (vals_rep g H z.cells.toList) (fun u hu => List.all_eq_true.1 h1 u hu)
        refine ⟨_, .pointer (some ⟨w.heap.size, 0, none⟩), _, _, ?_, .inl rfl, ⟨w.heap.size, upd_same _ _ _, rfl, by simp [hup, upd_same, isRow]⟩, h2, h3⟩
        rw [vN_run]
        simp [Instr.alloc, zeroValue, typeInfo, hj, hz, newVar, newRow]
      · cases h
    · cases h
  · cases h
def splice {α : Type} (cs : List α) (off : Nat) (ys : List α) : List α := cs.take off ++ ys ++ cs.drop (off + ys.length)
def aSt (P : Program) (t : TypeId) (H : Hp) (a x : SV) : Option Res :=
  match a with
  | .c (.own id off) => match H id with
    | some (.cells cs) => match TI P t, x.cells with
      | some i, some ys => if ys.length = i.size ∧ off + ys.length ≤ cs.length then some ⟨.c .any, some (id, .cells (splice cs off ys)), [id], false⟩ else none
      | _, _ => none
    | _ => none
  | _ => none
theorem splice_rep {g : G} {H : Hp} {cs ys : List CV} {vs us : List Value} {off : Nat} (h : RepCs g H cs vs) (hy : RepCs g H ys us) (hl : off + ys.length ≤ cs.length) : RepCs g H (splice cs off ys) (splice vs off us) := by
  have e1 := h.1
  have e2 := hy.1
  refine ⟨by simp [splice]; omega, fun j x v hx hv => ?_⟩
  unfold splice at hx hv
  have t1 : (cs.take off).length = off := by simp; omega
  have t2 : (vs.take off).length = off := by simp; omega
  rw [List.append_assoc] at hx hv
  rcases Nat.lt_or_ge j off with hj | hj
  · rw [List.getElem?_append_left (by omega), List.getElem?_take, if_pos hj] at hx hv
    exact h.2 j x v hx hv
  · rw [List.getElem?_append_right (by omega), t1] at hx
    rw [List.getElem?_append_right (by omega), t2] at hv
    rcases Nat.lt_or_ge (j - off) ys.length with hj2 | hj2
    · rw [List.getElem?_append_left (by omega)] at hx hv
      exact hy.2 _ x v hx hv
    · rw [List.getElem?_append_right (by omega), List.getElem?_drop] at hx hv
      rw [← e2] at hv
      exact h.2 _ x v hx hv
theorem splice_one {vs us : List Value} {off : Nat} (h : ∀ u ∈ vs, u.oneCell' = true) (hy : ∀ u ∈ us, u.oneCell' = true) : ∀ u ∈ splice vs off us, u.oneCell' = true := by
  intro u hu
  simp only [splice, List.mem_append] at hu
  rcases hu with (hu | hu) | hu
  · exact h u (List.mem_of_mem_take hu)
  · exact hy u hu
  · exact h u (List.mem_of_mem_drop hu)
theorem ok_store {P : Program} {W0 : Fr} {K0 : Know} {g : G} {H : Hp} {w : World} {r : Res} {t : TypeId} {a x : SV} {va v : Value} (hh : RelH W0 K0 g H w) (ha : RepS g H a va) (hx : RepS g H x v) (h : aSt P t H a x = some r) :
    RunOk P W0 K0 (do Instr.storeAt t va v; pure .skip) g H w r := by
  unfold aSt at h
  split at h
  · rename_i id off
    split at h
    · rename_i cs hcs
      split at h
      · rename_i i ys hi hys
        obtain ⟨u, j, z, hu, hj, hz, rfl⟩ := TI_spec hi
        split at h
        · rename_i hcond
          obtain ⟨hl1, hl2⟩ := hcond
          have hl1 : ys.length = j.size := hl1
          cases h
          obtain ⟨b, hb, rfl, _⟩ := ha
          obtain ⟨b', vs, t', hb', hheap, hr, h1, hn⟩ := hh.holds id _ hcs
          rw [hb] at hb'; cases hb'
          obtain ⟨us, hvu, hru, h1u⟩ := SV.cells_rep hx hys
          obtain ⟨h2, h3⟩ := RelH.write (vs' := splice vs off us) hh hcs hb hheap hn (splice_rep hr hru hl2) (splice_one h1 h1u)
          refine ⟨_, undef, _, _, ?_, .inr ⟨rfl, rfl⟩, trivial, h2, h3⟩
          have hul := hru.1
          have hvl := hr.1
          have hst := run_storeCells_at P b off t' us 0 vs.toArray w hheap (by simp; omega) h1u
          unfold Instr.storeAt Instr.sureAddr storeVar
          simp only [Sem.run_bind, Sem.run_pure, Result.andThen_ok, run_sizeOf hj, hvu]
          rw [if_neg (by simp; omega)]
          simp only [Nat.add_zero] at hst
          simp [hst, splice]
        · cases h
      · cases h
    · cases h
  · cases h
end Go.Proofs.YtepcpdionlfkhaaGreatDoor
namespace Go.Proofs.YtepcpdionlfkhaaGreatDoor
open Go Go.RowKit
set_option linter.unusedVariables false
set_option linter.unusedSimpArgs false
theorem flat_len {α : Type} {sz : Nat} : ∀ {xs : List (List α)}, (∀ x ∈ xs, x.length = sz) → xs.flatten.length = xs.length * sz
  | [], _ => by simp
  | x :: xs, h => by
    rw [List.flatten_cons, List.length_append, flat_len (fun y hy => h y (by simp [hy])), h x (by simp), List.length_cons, Nat.succ_mul]; omega
theorem flat_at {α : Type} {sz : Nat} : ∀ {xs : List (List α)}, (∀ x ∈ xs, x.length = sz) → ∀ (i : Nat) cs, xs[i]? = some cs → ∀ j, j < sz → xs.flatten[i * sz + j]? = cs[j]?
  | [], _, i, cs, h, _, _ => by simp at h
  | x :: xs, hs, 0, cs, h, j, hj => by
    simp at h; subst h
    have h := hs x (by simp)
    rw [List.flatten_cons, List.getElem?_append_left (by omega)]; simp
  | x :: xs, hs, i + 1, cs, h, j, hj => by
    have hx := hs x (by simp)
    rw [List.flatten_cons, List.getElem?_append_right (by rw [hx, Nat.succ_mul]; omega), hx, show (i + 1) * sz + j - sz = i * sz + j from by rw [Nat.succ_mul]; omega]
    exact flat_at (fun y hy => hs y (by simp [hy])) i cs (by simpa using h) j hj
theorem flat_drop {α : Type} {sz : Nat} : ∀ {xs : List (List α)}, (∀ x ∈ xs, x.length = sz) → ∀ l, (xs.drop l).flatten = xs.flatten.drop (l * sz)
  | [], _, l => by simp
  | x :: xs, hs, 0 => by simp
  | x :: xs, hs, l + 1 => by
    have hx := hs x (by simp)
    rw [List.drop_succ_cons, flat_drop (fun y hy => hs y (by simp [hy])) l, List.flatten_cons, Nat.succ_mul, show l * sz + sz = x.length + l * sz from by omega, List.drop_append]
    simp
theorem flat_take {α : Type} {sz : Nat} : ∀ {xs : List (List α)}, (∀ x ∈ xs, x.length = sz) → ∀ l, (xs.take l).flatten = xs.flatten.take (l * sz)
  | [], _, l => by simp
  | x :: xs, hs, 0 => by simp
  | x :: xs, hs, l + 1 => by
    have hx := hs x (by simp)
    rw [List.take_succ_cons, List.flatten_cons, flat_take (fun y hy => hs y (by simp [hy])) l, List.flatten_cons, Nat.succ_mul, show l * sz + sz = x.length + l * sz from by omega, List.take_append]
    simp [List.take_of_length_le]
/-- What stands for a list. -/
theorem Rep.inv {K : Know} {sz : Nat} {xs : List (List D)} {v : Value} (h : Rep K (.lst sz xs) v) : ∃ a c vs, v = .slice a xs.length c ∧ (∀ x ∈ xs, x.length = sz) ∧ xs.length ≤ c ∧ RepL K xs.flatten vs ∧ (∀ u ∈ vs, u.oneCell' = true) ∧
    (xs ≠ [] → ∃ b off, a = some ⟨b, off, none⟩ ∧ ∀ (j : Nat) v, vs[j]? = some v → K b (off + j) = some v) := by
  cases h with
  | lst hs hc hl hv h1 hk => exact ⟨_, _, _, rfl, hs, hc, ⟨hl, hv⟩, h1, hk⟩
def CV.lstOf (sz : Nat) : CV → Option (List (List D))
  | .d (.lst s xs) => if s = sz then some xs else none
  | .app _ s xs => if s = sz then some xs else none
  | .full s xs => if s = sz then some xs else none
  | .d (.val (.slice _ 0 _)) => some []
  | _ => none
theorem rep_nil (K : Know) (sz : Nat) : Rep K (.lst sz []) (.slice none 0 0) := Rep.lst (vs := []) (by simp) (by simp) rfl (by simp) (by simp) (by simp)
theorem CV.lstOf_rep {g : G} {H : Hp} {x : CV} {v : Value} {sz : Nat} {xs : List (List D)} (h : RepC g H x v) (hx : x.lstOf sz = some xs) : Rep g.K (.lst sz xs) v := by
  unfold CV.lstOf at hx
  split at hx
  · split at hx
    · rename_i e; subst e; cases hx; exact h
    · cases hx
  · split at hx
    · rename_i e; subst e; cases hx; exact h.1
    · cases hx
  · split at hx
    · rename_i e; subst e; cases hx; exact h.1
    · cases hx
  · cases hx
    have h : Rep g.K (.val (.slice _ 0 _)) v := h
    cases h
    exact Rep.lst (vs := []) (by simp) (by simp) rfl (by simp) (by simp) (by simp)
  · cases hx
theorem elemD_spec {u : TypeDesc} {e : Nat} (h : elemD u = some e) : u = .slice e := by cases u <;> simp [elemD] at h; subst h; rfl
def SV.nat (x : SV) : Option Nat :=
  match x.exact with
  | some (.int _ n) => if 0 ≤ n then some n.toNat else none
  | _ => none
theorem SV.nat_rep {g : G} {H : Hp} {x : SV} {v : Value} {n : Nat} (h : RepS g H x v) (hx : x.nat = some n) : ∃ k, v = .int k n := by
  unfold SV.nat at hx
  split at hx
  · rename_i k m hm
    split at hx
    · rename_i h0
      cases hx
      exact ⟨k, by rw [SV.exact_rep h hm, Int.toNat_of_nonneg h0]⟩
    · cases hx
  · cases hx
/-! an element's address -/
def esize (P : Program) (t : TypeId) : Option (Nat × Nat × Nat × List Value) :=
  match TI P t with
  | some ti => match ti.elem with
    | some e => match TI P e with
      | some ei => some (e, ei.size, ei.bytes, ei.zero)
      | none => none
    | none => none
  | none => none
theorem esize_spec {P : Program} {t e s bb : Nat} {zs : List Value} (h : esize P t = some (e, s, bb, zs)) : P.underlying t = some (.slice e) ∧ ∃ j z u, P.info? e = some j ∧ j.zero = some z ∧ j.size = s ∧ j.bytes = bb ∧ zs = z.cells.toList ∧ P.underlying e = some u := by
  unfold esize at h
  split at h
  · rename_i ti hti
    split at h
    · rename_i e' he
      split at h
      · rename_i ei hei
        cases h
        obtain ⟨u, j, z, hu, hj, hz, rfl⟩ := TI_spec hti
        obtain ⟨u', j', z', hu', hj', hz', rfl⟩ := TI_spec hei
        exact ⟨by rw [hu, elemD_spec he], j', z', u', hj', hz', rfl, rfl, rfl, hu'⟩
      · cases h
    · cases h
  · cases h
def aIndexAddr (P : Program) (t : TypeId) (x i : SV) : Option Res :=
  match esize P t with
  | some (_, s, _, _) => match i.nat with
    | some n => match x with
      | .c (.view id s' off len) => if s' = s ∧ n < len then some (Res.pure (.c (.own id (off + n * s)))) else none
      | .c cv => match cv.lstOf s with
        | some xs => match xs[n]? with
          | some cs => some (Res.pure (.c (.d (.ptr cs 0))))
          | none => none
        | none => none
      | _ => none
    | none => none
  | none => none
theorem run_indexAt_some {P : Program} {t e s : Nat} {j : TypeInfo} (hu : P.underlying t = some (.slice e)) (hj : P.info? e = some j) (hs : j.size = s) (b off len c n : Nat) (k : IntKind) (hn : n < len) (w : World) :
    (Instr.indexAt t (.slice (some ⟨b, off, none⟩) len c) (.int k n)).run P w = .ok (.pointer (some ⟨b, off + n * s, none⟩)) w := by
  unfold Instr.indexAt
  simp only [asIntOf, Sem.run_bind, Sem.run_pure, Result.andThen_ok, run_underlying hu]
  have : (0 : Int) ≤ (n : Int) ∧ (n : Int) < (len : Int) := by omega
  simp [this, run_sizeOf hj, hs, Addr.add_lit]
theorem ok_indexAddr {P : Program} {W0 : Fr} {K0 : Know} {g : G} {H : Hp} {w : World} {r : Res} {t : TypeId} {x i : SV} {v vi : Value} (hh : RelH W0 K0 g H w) (hx : RepS g H x v) (hi : RepS g H i vi) (h : aIndexAddr P t x i = some r) :
    RunOk P W0 K0 (vN (Instr.indexAt t v vi)) g H w r := by
  unfold aIndexAddr at h
  split at h
  · rename_i e s bb zs hes
    obtain ⟨hu, j, z, u, hj, hz, hs, hby, _, _⟩ := esize_spec hes
    split at h
    · rename_i n hn
      obtain ⟨k, rfl⟩ := SV.nat_rep hi hn
      split at h
      · rename_i id s' off len
        split at h
        · rename_i hc
          obtain ⟨rfl, hlt⟩ := hc
          cases h
          obtain ⟨b, c, hb, rfl, hlc, hnr⟩ := hx
          exact RunOk.same hh (by rw [vN_run, run_indexAt_some hu hj hs b off len c n k hlt]; rfl) ⟨b, hb, rfl, hnr⟩
        · cases h
      · rename_i cv _
        split at h
        · rename_i xs hxs
          split at h
          · rename_i cs hcs
            cases h
            obtain ⟨a, c, vs, rfl, hlen, hcap, hr, h1, hk⟩ := (CV.lstOf_rep hx hxs).inv
            have hlt : n < xs.length := (List.getElem?_eq_some_iff.1 hcs).1
            obtain ⟨b, off, rfl, hkk⟩ := hk (by intro e; subst e; simp at hlt)
            refine RunOk.same hh (by rw [vN_run, run_indexAt_some hu hj hs b off xs.length c n k hlt]; rfl) ?_
            have hcl : cs.length = s := hlen cs (List.mem_of_getElem? hcs)
            have htot : xs.flatten.length = xs.length * s := flat_len hlen
            have hle : n * s + s ≤ vs.length := by rw [← hr.1, htot, ← Nat.succ_mul]; exact Nat.mul_le_mul_right _ hlt
            have hget : ∀ j, j < s → ((vs.drop (n * s)).take s)[j]? = vs[n * s + j]? := fun j hj => by rw [List.getElem?_take, if_pos hj, List.getElem?_drop]
            have := Rep.ptr (K := g.K) (cs := cs) (vs := (vs.drop (n * s)).take s) (b := b) (o := off + n * s) (off := 0) (by simp; omega)
              (fun j x v hx hv => by
                have hj : j < s := by have := (List.getElem?_eq_some_iff.1 hx).1; omega
                rw [hget j hj] at hv
                exact hr.2 (n * s + j) x v ((flat_at hlen n cs hcs j hj).trans hx) hv)
              (fun u hu => h1 u (List.mem_of_mem_drop (List.mem_of_mem_take hu)))
              (fun j v hv => by
                have hj : j < s := by have := (List.getElem?_eq_some_iff.1 hv).1; simp at this; omega
                rw [hget j hj] at hv
                have := hkk (n * s + j) v hv
                rw [show off + n * s + j = off + (n * s + j) from by omega]; exact this)
            show Rep g.K _ _
            simpa using this
          · cases h
        · cases h
      · cases h
    · cases h
  · cases h
/-! lengths -/
def CV.lenOf : CV → Option Nat
  | .d (.lst _ xs) => some xs.length
  | .app _ _ xs => some xs.length
  | .full _ xs => some xs.length
  | .view _ _ _ len => some len
  | .d (.val (.slice _ n _)) => some n
  | _ => none
theorem CV.lenOf_rep {g : G} {H : Hp} {x : CV} {v : Value} {n : Nat} (h : RepC g H x v) (hx : x.lenOf = some n) : ∃ a c, v = .slice a n c := by
  unfold CV.lenOf at hx
  split at hx
  · cases hx; obtain ⟨a, c, vs, rfl, _⟩ := Rep.inv h; exact ⟨a, c, rfl⟩
  · cases hx; obtain ⟨a, c, vs, rfl, _⟩ := Rep.inv h.1; exact ⟨a, c, rfl⟩
  · cases hx; obtain ⟨a, c, vs, rfl, _⟩ := Rep.inv h.1; exact ⟨a, c, rfl⟩
  · cases hx; obtain ⟨b, c, _, rfl, _⟩ := h; exact ⟨_, c, rfl⟩
  · cases hx
    have h : Rep g.K _ v := h
    cases h; exact ⟨_, _, rfl⟩
  · cases hx
def aLen (P : Program) (t : TypeId) (x : SV) : Option Res :=
  match x with
  | .c (.d (.val (.string s))) => match P.underlying t with
    | some .string => some (Res.pure (.c (.d (.val (.int .i64 s.size)))))
    | _ => none
  | .c cv => match esize P t with
    | some _ => match cv.lenOf with
      | some n => some (Res.pure (.c (.d (.val (.int .i64 n)))))
      | none => none
    | none => none
  | _ => none
theorem ok_len {P : Program} {W0 : Fr} {K0 : Know} {g : G} {H : Hp} {w : World} {r : Res} {t ty : TypeId} {x : SV} {v : Value} (hh : RelH W0 K0 g H w) (hx : RepS g H x v) (h : aLen P t x = some r) :
    RunOk P W0 K0 (vN (Builtin.len_ #[t] ty #[v])) g H w r := by
  unfold aLen at h
  split at h
  · rename_i s
    split at h
    · rename_i hu
      cases h
      have hx : Rep g.K (.val (.string s)) v := hx
      cases hx
      exact RunOk.same hh (v := .int .i64 s.size) (by rw [vN_run]; simp [Builtin.len_, run_underlying hu, goInt]) (Rep.val _)
    · cases h
  · rename_i cv _
    split at h
    · rename_i q hes
      obtain ⟨e, s, bb, zs⟩ := q
      obtain ⟨hu, _⟩ := esize_spec hes
      split at h
      · rename_i n hn
        cases h
        obtain ⟨a, c, rfl⟩ := CV.lenOf_rep hx hn
        exact RunOk.same hh (v := .int .i64 n) (by rw [vN_run]; simp [Builtin.len_, run_underlying hu, goInt]) (Rep.val _)
      · cases h
    · cases h
  · cases h
/-! slices of lists and of strings -/
def onat : Option SV → Nat → Option Nat
  | none, d => some d
  | some x, _ => x.nat
def iFl : CV → Bool
  | .full _ _ => true
  | _ => false
def aSl (P : Program) (t : TypeId) (x : SV) (lo hi mx : Option SV) : Option Res :=
  match x with
  | .c (.d (.val (.string s))) => match P.underlying t, mx, onat lo 0, onat hi s.size with
    | some .string, none, some l, some h => if l ≤ h ∧ h ≤ s.size then some (Res.pure (.c (.d (.val (.string (s.extract l h)))))) else none
    | _, _, _, _ => none
  | .c cv => match esize P t with
    | some (_, sz, _, _) => match cv.lstOf sz with
      | some xs => match onat lo 0, onat hi xs.length with
        | some l, some h => match mx with
          | none => if l ≤ h ∧ h ≤ xs.length then some (Res.pure (.c (if iFl cv ∧ h = xs.length then .full sz ((xs.drop l).take (h - l)) else .d (.lst sz ((xs.drop l).take (h - l)))))) else none
          | some m => match m.nat with
            | some m => if l ≤ h ∧ h = m ∧ m ≤ xs.length ∧ hi.isSome then some (Res.pure (.c (.full sz ((xs.drop l).take (h - l))))) else none
            | none => none
        | _, _ => none
      | none => none
    | none => none
  | _ => none
theorem onat_rep {g : G} {H : Hp} {x : Option SV} {v : Option Value} {d n : Nat} (h : match x, v with | none, none => True | some x, some v => RepS g H x v | _, _ => False) (hx : onat x d = some n) :
    (v = none ∧ x = none ∧ n = d) ∨ ∃ k, v = some (.int k n) ∧ x ≠ none := by
  cases x with
  | none => cases v with
    | none => simp [onat] at hx; exact .inl ⟨rfl, rfl, hx.symm⟩
    | some v => exact h.elim
  | some x => cases v with
    | none => exact h.elim
    | some v => obtain ⟨k, rfl⟩ := SV.nat_rep h hx; exact .inr ⟨k, rfl, by simp⟩
theorem run_sliceBound {P : Program} {k : IntKind} {n y : Nat} {code : BoundsCode} (h : n ≤ y) (w : World) : (Instr.sliceBound (.int k n) y code).run P w = .ok n w := by
  unfold Instr.sliceBound
  simp [asIntOf, h]
theorem run_sliceBounds_two {P : Program} {g : G} {H : Hp} {isS : Bool} {lo hi : Option SV} {vlo vhi : Option Value} {len cap l h : Nat} (w : World)
    (hlo : match lo, vlo with | none, none => True | some x, some v => RepS g H x v | _, _ => False) (hhi : match hi, vhi with | none, none => True | some x, some v => RepS g H x v | _, _ => False)
    (h1 : onat lo 0 = some l) (h2 : onat hi len = some h) (hlh : l ≤ h) (hhl : h ≤ len) (hcap : len ≤ cap) : (Instr.sliceBounds isS len cap vlo vhi none).run P w = .ok (l, h, cap) w := by
  unfold Instr.sliceBounds
  rcases onat_rep hhi h2 with ⟨rfl, _, rfl⟩ | ⟨k, rfl, _⟩ <;> rcases onat_rep hlo h1 with ⟨rfl, _, rfl⟩ | ⟨k', rfl, _⟩
  · simp
  · simp [run_sliceBound (P := P) hlh]
  · simp [run_sliceBound (P := P) (show h ≤ cap by omega)]
  · simp [run_sliceBound (P := P) (show h ≤ cap by omega), run_sliceBound (P := P) hlh]
theorem slice_rep {K : Know} {sz : Nat} {xs : List (List D)} {a : Option Addr} {c l h m : Nat} (hr : Rep K (.lst sz xs) (.slice a xs.length c)) (hlh : l ≤ h) (hhx : h ≤ xs.length) (hhm : h ≤ m) (hmc : m ≤ c) :
    Rep K (.lst sz ((xs.drop l).take (h - l))) (.slice (if m = l then a else a.map (·.add (l * sz))) (h - l) (m - l)) := by
  obtain ⟨a', c', vs, e, hs, hc, hrl, h1, hk⟩ := hr.inv
  cases e
  have hlen : ((xs.drop l).take (h - l)).length = h - l := by simp; omega
  have hs' : ∀ x ∈ (xs.drop l).take (h - l), x.length = sz := fun x hx => hs x (List.mem_of_mem_drop (List.mem_of_mem_take hx))
  have hs2 : ∀ x ∈ xs.drop l, x.length = sz := fun x hx => hs x (List.mem_of_mem_drop hx)
  have hfl : ((xs.drop l).take (h - l)).flatten = (xs.flatten.drop (l * sz)).take ((h - l) * sz) := by rw [flat_take hs2, flat_drop hs]
  have htot := flat_len hs
  have key := Rep.lst (K := K) (sz := sz) (xs := (xs.drop l).take (h - l)) (vs := (vs.drop (l * sz)).take ((h - l) * sz)) (a := if m = l then a else a.map (·.add (l * sz))) (c := m - l) hs' (by omega)
    (by rw [hfl]; simp [hrl.1])
    (fun j x v hx hv => by
      rw [hfl, List.getElem?_take] at hx
      rw [List.getElem?_take] at hv
      split at hx
      · rename_i hj
        rw [if_pos hj, List.getElem?_drop] at hv
        rw [List.getElem?_drop] at hx
        exact hrl.2 _ x v hx hv
      · cases hx)
    (fun u hu => h1 u (List.mem_of_mem_drop (List.mem_of_mem_take hu)))
    (fun hne => by
      have hlt : l < h := by
        rcases Nat.lt_or_ge l h with h' | h'
        · exact h'
        · exfalso; apply hne; rw [show h - l = 0 from by omega]; simp
      obtain ⟨b, off, rfl, hkk⟩ := hk (by intro e; rw [e] at hhx; simp at hhx; omega)
      rw [if_neg (by omega)]
      refine ⟨b, off + l * sz, by simp [Addr.add_lit], fun j v hv => ?_⟩
      rw [List.getElem?_take] at hv
      split at hv
      · rw [List.getElem?_drop] at hv
        rw [show off + l * sz + j = off + (l * sz + j) from by omega]
        exact hkk _ v hv
      · cases hv)
  rw [hlen] at key
  exact key
theorem ok_slice {P : Program} {W0 : Fr} {K0 : Know} {g : G} {H : Hp} {w : World} {r : Res} {t : TypeId} {x : SV} {v : Value} {lo hi mx : Option SV} {vlo vhi vmx : Option Value} (hh : RelH W0 K0 g H w) (hx : RepS g H x v)
    (hlo : match lo, vlo with | none, none => True | some x, some v => RepS g H x v | _, _ => False) (hhi : match hi, vhi with | none, none => True | some x, some v => RepS g H x v | _, _ => False)
    (hmx : match mx, vmx with | none, none => True | some x, some v => RepS g H x v | _, _ => False) (h : aSl P t x lo hi mx = some r) :
    RunOk P W0 K0 (vN (Instr.sliceAt t v vlo vhi vmx)) g H w r := by
  unfold aSl at h
  split at h
  · rename_i s
    split at h
    · rename_i l hh2 hu h1 h2
      split at h
      · rename_i hc
        cases h
        have hx : Rep g.K (.val (.string s)) v := hx
        cases hx
        cases vmx with
        | some v => exact hmx.elim
        | none =>
          refine RunOk.same hh (v := .string (s.extract l hh2)) ?_ (Rep.val _)
          rw [vN_run]
          unfold Instr.sliceAt Instr.slice
          simp only [Sem.run_bind, run_underlying hu, Result.andThen_ok]
          simp [run_sliceBounds_two (P := P) (isS := false) w hlo hhi h1 h2 hc.1 hc.2 (Nat.le_refl _)]
      · cases h
    · cases h
  · rename_i cv _
    split at h
    · rename_i e sz bb zs hes
      obtain ⟨hu, j, z, u, hj, hz, hs, hby, _, _⟩ := esize_spec hes
      split at h
      · rename_i xs hxs
        have hrep := CV.lstOf_rep hx hxs
        obtain ⟨a, c, vs, rfl, _, hcap, _⟩ := hrep.inv
        split at h
        · rename_i l hh2 h1 h2
          split at h
          · split at h
            · rename_i hc
              cases h
              cases vmx with
              | some v => exact hmx.elim
              | none =>
                have hb := run_sliceBounds_two (P := P) (isS := true) w hlo hhi h1 h2 hc.1 hc.2 hcap
                refine RunOk.same hh (v := .slice (if c = l then a else a.map (·.add (l * sz))) (hh2 - l) (c - l)) ?_ ?_
                · rw [vN_run]
                  unfold Instr.sliceAt Instr.slice
                  simp only [Sem.run_bind, run_underlying hu, Result.andThen_ok, hb, run_sizeOf hj, hs, Sem.run_pure]
                · have hrr := slice_rep hrep hc.1 hc.2 (show hh2 ≤ c by omega) (Nat.le_refl c)
                  show RepC g H _ _
                  split
                  · rename_i hf
                    refine ⟨hrr, (if c = l then a else a.map (·.add (l * sz))), ?_⟩
                    have : ((xs.drop l).take (hh2 - l)).length = hh2 - l := by simp; omega
                    rw [this]
                    cases cv with
                    | full s' xs' =>
                      obtain ⟨_, a', hv⟩ := hx
                      simp only [CV.lstOf] at hxs
                      split at hxs
                      · cases hxs
                        cases hv
                        rw [hf.2]
                      · cases hxs
                    | _ => simp [iFl] at hf
                  · exact hrr
            · cases h
          · rename_i m
            split at h
            · rename_i mm hm
              split at h
              · rename_i hc
                obtain ⟨hc1, rfl, hc2, hc3⟩ := hc
                cases h
                cases vmx with
                | none => exact hmx.elim
                | some vm =>
                  obtain ⟨km, rfl⟩ := SV.nat_rep hmx hm
                  have hb : (Instr.sliceBounds true xs.length c vlo vhi (some (.int km hh2))).run P w = .ok (l, hh2, hh2) w := by
                    unfold Instr.sliceBounds
                    rcases onat_rep hhi h2 with ⟨rfl, e, _⟩ | ⟨k, rfl, _⟩
                    · subst e; simp at hc3
                    · rcases onat_rep hlo h1 with ⟨rfl, _, rfl⟩ | ⟨k', rfl, _⟩
                      · simp [run_sliceBound (P := P) (show hh2 ≤ c by omega), run_sliceBound (P := P) (Nat.le_refl hh2)]
                      · simp [run_sliceBound (P := P) (show hh2 ≤ c by omega), run_sliceBound (P := P) (Nat.le_refl hh2), run_sliceBound (P := P) hc1]
                  refine RunOk.same hh (v := .slice (if hh2 = l then a else a.map (·.add (l * sz))) (hh2 - l) (hh2 - l)) ?_ ?_
                  · rw [vN_run]
                    unfold Instr.sliceAt Instr.slice
                    simp only [Sem.run_bind, run_underlying hu, Result.andThen_ok, hb, run_sizeOf hj, hs, Sem.run_pure]
                  · have hrr := slice_rep hrep hc1 hc2 (Nat.le_refl _) (show hh2 ≤ c by omega)
                    have : ((xs.drop l).take (hh2 - l)).length = hh2 - l := by simp; omega
                    exact ⟨hrr, _, by rw [this]⟩
              · cases h
            · cases h
        · cases h
      · cases h
    · cases h
  · cases h
end Go.Proofs.YtepcpdionlfkhaaGreatDoor
namespace Go.Proofs.YtepcpdionlfkhaaGreatDoor
open Go Go.RowKit
set_option linter.unusedVariables false
set_option linter.unusedSimpArgs false
/-! struct and slice literals -/
def afill (place : Nat → Option (Nat × Nat)) : List CV → List (Nat × SV) → Option (List CV)
  | cs, [] => some cs
  | cs, (i, x) :: rest => match place i, x.cells with
    | some (off, size), some ys => if ys.length = size ∧ off + ys.length ≤ cs.length then afill place (splice cs off ys) rest else none
    | _, _ => none
theorem splice_get {α : Type} (vs us : List α) (off : Nat) (h : off + us.length ≤ vs.length) (i : Nat) : (splice vs off us)[i]? = if i < off then vs[i]? else if i < off + us.length then us[i - off]? else vs[i]? := by
  have h0 : (vs.take off).length = off := by simp; omega
  simp only [splice, List.append_assoc]
  split
  · rw [List.getElem?_append_left (by omega), List.getElem?_take, if_pos (by omega)]
  · rw [List.getElem?_append_right (by omega), h0]
    split
    · rw [List.getElem?_append_left (by omega)]
    · rw [List.getElem?_append_right (by omega), List.getElem?_drop]
      congr 1; omega
theorem set_fold (off : Nat) : ∀ (us : List Value) (k : Nat) (vs : List Value), off + k + us.length ≤ vs.length →
    (us.zipIdx k).foldl (fun cs (p : Value × Nat) => Array.setIfInBounds cs (off + p.2) p.1) vs.toArray = (splice vs (off + k) us).toArray
  | [], k, vs, h => by simp [splice]
  | u :: us, k, vs, h => by
    simp only [List.length_cons] at h
    simp only [List.zipIdx_cons, List.foldl_cons, List.setIfInBounds_toArray]
    rw [set_fold off us (k + 1) _ (by simp; omega)]
    congr 1
    apply List.ext_getElem?
    intro i
    rw [splice_get _ _ _ (by simp; omega), splice_get _ _ _ (by simp; omega)]
    simp only [List.length_cons, List.getElem?_set]
    by_cases h1 : i < off + k
    · rw [if_pos (by omega), if_neg (by omega), if_pos h1]
    · by_cases h2 : i = off + k
      · subst h2
        rw [if_pos (by omega), if_pos rfl, if_pos (by omega), if_neg (by omega), if_pos (by omega)]
        simp
      · rw [if_neg (by omega), if_neg (show ¬ i < off + k by omega)]
        by_cases h3 : i < off + (k + 1) + us.length
        · rw [if_pos h3, if_pos (by omega), show i - (off + k) = (i - (off + (k + 1))) + 1 from by omega, List.getElem?_cons_succ]
        · rw [if_neg h3, if_neg (by omega), if_neg (by omega)]
def RepParts (g : G) (H : Hp) : List (Nat × SV) → List (Nat × Value) → Prop
  | [], [] => True
  | (i, x) :: xs, (j, v) :: vs => i = j ∧ RepS g H x v ∧ RepParts g H xs vs
  | _, _ => False
theorem afill_rep {g : G} {H : Hp} {place : Nat → Option (Nat × Nat)} : ∀ {ps : List (Nat × SV)} {cs cs' : List CV} {vs : List Value} {qs : List (Nat × Value)}, RepCs g H cs vs → (∀ u ∈ vs, u.oneCell' = true) → RepParts g H ps qs → afill place cs ps = some cs' →
    ∃ vs' : List Value, Instr.fill place vs.toArray qs = some vs'.toArray ∧ RepCs g H cs' vs' ∧ ∀ u ∈ vs', u.oneCell' = true
  | [], cs, cs', vs, qs, hr, h1, hp, h => by
    cases qs with
    | cons q qs => exact hp.elim
    | nil => simp [afill] at h; subst h; exact ⟨vs, rfl, hr, h1⟩
  | (i, x) :: ps, cs, cs', vs, qs, hr, h1, hp, h => by
    cases qs with
    | nil => exact hp.elim
    | cons q qs =>
      obtain ⟨j, v⟩ := q
      obtain ⟨rfl, hx, hp⟩ := hp
      simp only [afill] at h
      split at h
      · rename_i off size ys hpl hys
        split at h
        · rename_i hc
          obtain ⟨us, hus, hru, h1u⟩ := SV.cells_rep hx hys
          obtain ⟨vs', hf, hr', h1'⟩ := afill_rep (splice_rep hr hru hc.2) (splice_one h1 h1u) hp h
          refine ⟨vs', ?_, hr', h1'⟩
          have e1 := hr.1
          have e2 := hru.1
          have hne : ¬ (v.cells.size ≠ size || decide (off + v.cells.size > vs.toArray.size)) = true := by rw [hus]; simp; omega
          simp only [Instr.fill, hpl]
          rw [if_neg (by simpa using hne)]
          rw [← hf]
          congr 1
          rw [hus]
          have := set_fold off us 0 vs (by omega)
          simp only [Nat.add_zero] at this
          rw [← this]
          rw [← Array.foldl_toList]
          simp
        · cases h
      · cases h
def placeS (i : TInfo) (f : Nat) : Option (Nat × Nat) :=
  match i.fs[f]? with
  | some (o, z, _) => some (o, z)
  | none => none
def aBuild (P : Program) (t : TypeId) (ps : List (Nat × SV)) : Option Res :=
  match TI P t with
  | some i => if i.zero.all (·.oneCell') ∧ i.fs ≠ [] ∧ i.fs.all (fun f => f.2.1 ≠ 0) then match afill (placeS i) (i.zero.map fun v => .d (.val v)) ps with
      | some cs => some (Res.pure (.agg cs))
      | none => none
    else none
  | none => none
theorem mapM_sizes {P : Program} {w : World} : ∀ (l : List Field), (∀ f ∈ l, fszD P f.type ≠ 0) → (l.mapM (fun f => do pure (f.offset, ← sizeOf f.type) : Field → Sem (Nat × Nat))).run P w = .ok (l.map fun f => (f.offset, fszD P f.type)) w
  | [], _ => by simp
  | f :: l, h => by
    obtain ⟨i, u, hi, hu, hk⟩ := fszD_spec (h f (by simp))
    simp only [List.mapM_cons, Sem.run_bind, run_sizeOf hi, Result.andThen_ok, Sem.run_pure, mapM_sizes l (fun g hg => h g (by simp [hg])), List.map_cons, hk]
theorem ok_build {P : Program} {W0 : Fr} {K0 : Know} {g : G} {H : Hp} {w : World} {r : Res} {t : TypeId} {ps : List (Nat × SV)} {qs : Array (Nat × Value)} (hh : RelH W0 K0 g H w) (hp : RepParts g H ps qs.toList) (h : aBuild P t ps = some r) :
    RunOk P W0 K0 (vN (Instr.build t qs)) g H w r := by
  unfold aBuild at h
  split at h
  · rename_i i hi
    obtain ⟨u, j, z, hu, hj, hz, rfl⟩ := TI_spec hi
    split at h
    · rename_i hc
      obtain ⟨h1, hne, hall⟩ := hc
      split at h
      · rename_i cs hcs
        cases h
        cases u with
        | struct fs =>
          have hsz : ∀ f ∈ fs.toList, fszD P f.type ≠ 0 := fun f hf => by
            have := List.all_eq_true.1 hall (f.offset, fszD P f.type, _) (List.mem_map.2 ⟨f, hf, rfl⟩)
            simpa using this
          obtain ⟨vs', hf, hr, h1'⟩ := afill_rep (place := fun i => (fs.toList.map fun f => (f.offset, fszD P f.type))[i]?) (vals_rep g H z.cells.toList) (fun u hu => List.all_eq_true.1 h1 u hu) hp (by
            rw [← hcs]
            congr 1
            funext k
            simp only [placeS, fsD, List.getElem?_map]
            cases fs.toList[k]? <;> rfl)
          refine RunOk.same hh (v := .agg vs'.toArray) ?_ ⟨vs', rfl, hr, h1'⟩
          rw [vN_run]
          unfold Instr.build
          have hm := mapM_sizes (P := P) (w := w) fs.toList hsz
          simp only [Sem.run_bind, zeroValue, typeInfo, run_program, Result.andThen_ok, hj, Sem.run_pure, hz, run_underlying hu, Array.mapM_eq_mapM_toList, Sem.run_map, hm]
          have hf2 : Instr.fill (fun x => ((fs.toList.map fun f => (f.offset, fszD P f.type)).toArray)[x]?) z.cells qs.toList = some vs'.toArray := by
            rw [← hf]; congr 1; funext x; simp
          simp only [hf2, Sem.run_pure, Result.andThen_ok]
        | _ => simp [fsD] at hne
      · cases h
    · cases h
  · cases h
def chunk {α : Type} (sz : Nat) : Nat → List α → List (List α)
  | 0, _ => []
  | n + 1, l => l.take sz :: chunk sz n (l.drop sz)
theorem chunk_spec {α : Type} (sz : Nat) : ∀ (n : Nat) (l : List α), l.length = n * sz → (chunk sz n l).flatten = l ∧ (chunk sz n l).length = n ∧ ∀ x ∈ chunk sz n l, x.length = sz
  | 0, l, h => by simp at h; subst h; simp [chunk]
  | n + 1, l, h => by
    rw [Nat.succ_mul] at h
    obtain ⟨h1, h2, h3⟩ := chunk_spec sz n (l.drop sz) (by simp; omega)
    refine ⟨by simp [chunk, h1], by simp [chunk, h2], fun x hx => ?_⟩
    simp only [chunk, List.mem_cons] at hx
    rcases hx with rfl | hx
    · simp; omega
    · exact h3 x hx
/-- A new list, that nobody writes: the block, the knowledge of it, the value. -/
theorem new_list {P : Program} {W0 : Fr} {K0 : Know} {g : G} {H : Hp} {w : World} {ds : List D} {vs : List Value} {sz n : Nat} (t : TypeId) (rest : List Value) (hh : RelH W0 K0 g H w) (hr : RepL g.K ds vs) (h1 : ∀ u ∈ vs, u.oneCell' = true) (hl : ds.length = n * sz) (c : Nat) (hc : n ≤ c) :
    RelH W0 K0 { g with K := Kadd g.K w.heap.size vs } H (w.alloc (.cells (vs ++ rest).toArray t)) ∧ GLe g H { g with K := Kadd g.K w.heap.size vs } H ∧
    Rep (Kadd g.K w.heap.size vs) (.lst sz (chunk sz n ds)) (.slice (some ⟨w.heap.size, 0, none⟩) n c) := by
  have he := Kadd_ext hh.kw vs
  refine ⟨hh.grow (below_alloc w _) he (Kadd_kw hh.kw vs _ t _ (fun j v hj => ?_)), GLe.ofK he.1, ?_⟩
  · have hlt := (List.getElem?_eq_some_iff.1 hj).1
    simp [List.getElem?_append_left hlt, hj]
  · obtain ⟨h2, h3, h4⟩ := chunk_spec sz n ds hl
    have hr' := hr.mono he.1
    have := Rep.lst (K := Kadd g.K w.heap.size vs) (sz := sz) (xs := chunk sz n ds) (vs := vs) (a := some ⟨w.heap.size, 0, none⟩) (c := c) h4 (by omega) (by rw [h2]; exact hr.1) (by rw [h2]; exact hr'.2) h1
      (fun _ => ⟨w.heap.size, 0, rfl, fun j v hj => by unfold Kadd; rw [if_pos rfl, Nat.zero_add]; exact hj⟩)
    rw [h3] at this
    exact this
def zeroRow (zs : List Value) (n : Nat) : List Value := (List.range n).map fun i => zs.toArray[i % zs.length]!
def zrow (zs : List Value) : Nat → List Value
  | 0 => []
  | n + 1 => zs ++ zrow zs n
theorem zrow_len (zs : List Value) : ∀ n, (zrow zs n).length = n * zs.length
  | 0 => by simp [zrow]
  | n + 1 => by simp [zrow, zrow_len zs n, Nat.succ_mul]; omega
theorem zrow_get (zs : List Value) (h : zs.length ≠ 0) : ∀ n i, i < n * zs.length → (zrow zs n)[i]? = zs[i % zs.length]?
  | 0, i, hi => by simp at hi
  | n + 1, i, hi => by
    rw [Nat.succ_mul] at hi
    simp only [zrow]
    by_cases h1 : i < zs.length
    · rw [List.getElem?_append_left h1, Nat.mod_eq_of_lt h1]
    · rw [List.getElem?_append_right (by omega), zrow_get zs h n _ (by omega), Nat.mod_eq_sub_mod (a := i) (by omega)]
theorem zrow_eq (zs : List Value) (h : zs.length ≠ 0) (n : Nat) : zrow zs n = zeroRow zs (n * zs.length) := by
  apply List.ext_getElem?
  intro i
  by_cases hi : i < n * zs.length
  · rw [zrow_get zs h n i hi]
    have hlt : i % zs.length < zs.length := Nat.mod_lt _ (by omega)
    simp [zeroRow, hi, hlt]
  · rw [List.getElem?_eq_none (by rw [zrow_len]; omega), List.getElem?_eq_none (by simp [zeroRow]; omega)]
def aBuildSlice (P : Program) (t : TypeId) (len : Nat) (ps : List (Nat × SV)) : Option Res :=
  match esize P t with
  | some (_, sz, _, zs) => if len = 0 then match ps with
      | [] => some (Res.pure (.c (.full sz [])))
      | _ => none
    else if len * sz ≤ 16777216 ∧ 0 < len * sz ∧ zs.length = sz ∧ zs.all (·.oneCell') then
      match afill (fun i => some (i * sz, sz)) ((zrow zs len).map fun v => .d (.val v)) ps with
      | some cs => match mapO CV.toD0 cs with
        | some ds => if ds.length = len * sz then some (Res.pure (.c (.full sz (chunk sz len ds)))) else none
        | none => none
      | none => none
    else none
  | none => none
theorem ok_buildSlice {P : Program} {W0 : Fr} {K0 : Know} {g : G} {H : Hp} {w : World} {r : Res} {t : TypeId} {len : Nat} {ps : List (Nat × SV)} {qs : Array (Nat × Value)} (hh : RelH W0 K0 g H w) (hp : RepParts g H ps qs.toList) (h : aBuildSlice P t len ps = some r) :
    RunOk P W0 K0 (vN (Instr.buildSlice t len qs)) g H w r := by
  unfold aBuildSlice at h
  split at h
  · rename_i e sz bb zs hes
    obtain ⟨hu, j, z, u, hj, hz, hs, hby, hzs, _⟩ := esize_spec hes
    split at h
    · rename_i h0
      split at h
      · cases h
        subst h0
        have hq : qs.toList = [] := by
          cases hq : qs.toList with
          | nil => rfl
          | cons a l => rw [hq] at hp; exact hp.elim
        have hnl := new_list (P := P) (sz := sz) (n := 0) (ds := []) (vs := []) e [] hh ⟨rfl, fun j x v hx => by simp at hx⟩ (by simp) (by simp) 0 (Nat.le_refl _)
        refine ⟨_, .slice (some ⟨w.heap.size, 0, none⟩) 0 0, w.alloc (.cells #[] e), _, ?_, .inl rfl, ⟨hnl.2.2, some ⟨w.heap.size, 0, none⟩, rfl⟩, hnl.1, hnl.2.1⟩
        rw [vN_run]
        unfold Instr.buildSlice
        simp [run_underlying hu, run_sizeOf hj, hs, hq, Instr.fill, newRow]
        rw [show Array.map (fun (_ : Nat) => (default : Value)) (Array.range 0) = #[] from by apply Array.ext'; simp]
      · cases h
    · split at h
      rotate_left
      · cases h
      rename_i hc
      obtain ⟨hc1, hc2, hc3', hc4⟩ := hc
      have hc3 : zs.length ≠ 0 := by intro e; rw [← hc3', e] at hc2; simp at hc2
      rw [zrow_eq zs hc3 len, hc3'] at h
      split at h
      · rename_i cs hcs
        split at h
        · rename_i ds hds
          split at h
          · rename_i hdl
            cases h
            have hz1 : ∀ u ∈ zeroRow zs (len * sz), u.oneCell' = true := fun u hu => by
              simp only [zeroRow, List.mem_map, List.mem_range] at hu
              obtain ⟨i, hi, rfl⟩ := hu
              have hlt : i % zs.length < zs.length := Nat.mod_lt _ (by omega)
              have : zs.toArray[i % zs.length]! = zs[i % zs.length] := by simp [hlt]
              rw [this]
              exact List.all_eq_true.1 hc4 _ (List.getElem_mem hlt)
            obtain ⟨vs, hf, hr, h1⟩ := afill_rep (vals_rep g H (zeroRow zs (len * sz))) hz1 hp hcs
            have hL := hr.toD0 hds
            obtain ⟨h2, h3, h4⟩ := new_list (P := P) (sz := sz) (n := len) e [] hh hL h1 hdl len (Nat.le_refl _)
            have hlen : (chunk sz len ds).length = len := (chunk_spec sz len ds hdl).2.1
            refine ⟨_, .slice (some ⟨w.heap.size, 0, none⟩) len len, _, _, ?_, .inl rfl, ⟨h4, some ⟨w.heap.size, 0, none⟩, by rw [hlen]⟩, h2, h3⟩
            have hrow : (Array.range (len * sz)).map (fun x => z.cells[x % z.cells.size]!) = (zeroRow zs (len * sz)).toArray := by
              subst hzs
              apply Array.ext'
              simp [zeroRow]
            rw [vN_run]
            unfold Instr.buildSlice
            simp only [Sem.run_bind, run_underlying hu, Result.andThen_ok, run_sizeOf hj, hs]
            rw [if_neg (by omega)]
            rw [if_neg (by omega)]
            simp only [Sem.run_bind, zeroValue, typeInfo, run_program, Result.andThen_ok, hj, Sem.run_pure, hz, hrow, hf]
            simp [newRow]
          · cases h
        · cases h
      · cases h
  · cases h
/-! interfaces, closures, tuples -/
def aIf (P : Program) (t : TypeId) (H : Hp) (x : SV) : Option Res :=
  match TI P t with
  | some i => if i.iface then none else match x with
    | .c (.own id off) => match H id with
      | some (.froz ds) => some ⟨.c (.d (.iface t (.ptr ds off))), none, [id], false⟩
      | some (.cells cs) => match mapO CV.toD0 cs with
        | some ds => some ⟨.c (.d (.iface t (.ptr ds off))), some (id, .froz ds), [id], false⟩
        | none => none
      | _ => none
    | .c cv => match cv.toD0 with
      | some y => some (Res.pure (.c (.d (.iface t y))))
      | none => none
    | .agg cs => match mapO CV.toD0 cs with
      | some ds => some (Res.pure (.c (.d (.iface t (.agg ds)))))
      | none => none
  | none => none
theorem run_makeIface {P : Program} {t : TypeId} {u : TypeDesc} (hu : P.underlying t = some u) (hi : ifaceD u = false) (v : Value) (w : World) : (Instr.makeInterface t v).run P w = .ok (.iface t v) w := by
  unfold Instr.makeInterface
  simp only [Sem.run_bind, run_underlying hu, Result.andThen_ok]
  cases u <;> first | rfl | simp [ifaceD] at hi
theorem ok_iface {P : Program} {W0 : Fr} {K0 : Know} {g : G} {H : Hp} {w : World} {r : Res} {t : TypeId} {x : SV} {v : Value} (hh : RelH W0 K0 g H w) (hx : RepS g H x v) (h : aIf P t H x = some r) :
    RunOk P W0 K0 (vN (Instr.makeInterface t v)) g H w r := by
  unfold aIf at h
  split at h
  · rename_i i hi
    obtain ⟨u, j, z, hu, hj, hz, rfl⟩ := TI_spec hi
    split at h
    · cases h
    · rename_i hif
      have hif : ifaceD u = false := by simpa using hif
      have hrun : (vN (Instr.makeInterface t v)).run P w = .ok (.value (.iface t v)) w := by rw [vN_run, run_makeIface hu hif]; rfl
      split at h
      · rename_i id off
        split at h
        · rename_i ds hds
          cases h
          have hd := CV.toD_rep hh (x := .own id off) (y := .ptr ds off) hx (by simp [CV.toD, hds])
          exact ⟨_, _, w, g, hrun, .inl rfl, Rep.iface hd, hh, GLe.refl _ _⟩
        · rename_i cs hcs
          split at h
          · rename_i ds hds
            cases h
            obtain ⟨g', h2, h3⟩ := hh.freeze hcs hds
            have hx' := h3 (.own id off) v hx
            have hd := CV.toD_rep h2 (x := .own id off) (y := .ptr ds off) hx' (by simp [CV.toD, upd_same])
            exact ⟨_, _, w, g', hrun, .inl rfl, Rep.iface hd, h2, h3⟩
          · cases h
        · cases h
      · rename_i cv _
        split at h
        · rename_i y hy
          cases h
          exact RunOk.same hh hrun (Rep.iface (CV.toD0_rep hx hy))
        · cases h
      · rename_i cs
        split at h
        · rename_i ds hds
          cases h
          obtain ⟨vs, rfl, hr, h1⟩ := hx
          have := hr.toD0 hds
          exact RunOk.same hh hrun (Rep.iface (.agg this.1 this.2 h1))
        · cases h
  · cases h
def capD (H : Hp) : SV → Option D
  | .c x => x.toD H
  | .agg _ => none
def oWn : SV → List Nat
  | .c (.own id _) => [id]
  | _ => []
def capG : SV → Option Cap
  | .c (.own id off) => some (.own id off)
  | .c x => match x.toD0 with
    | some y => some (.d y)
    | none => none
  | .agg _ => none
def aMF (H : Hp) (fn : Fn) (first caps : List SV) : Option Res :=
  match first, mapO (capD H) caps with
  | [], some ds => some ⟨.c (.d (.fn fn ds)), none, caps.flatMap oWn, false⟩
  | fs, _ => match mapO capG fs, mapO capG caps with
    | some [], some cs => some ⟨.c (.clo fn cs), none, caps.flatMap oWn, false⟩
    | some (c :: bs), some [] => some ⟨.c (.bnd fn (c :: bs)), none, caps.flatMap oWn, false⟩
    | _, _ => none
theorem capG_rep {g : G} {H : Hp} {x : SV} {v : Value} {c : Cap} (hx : RepS g H x v) (h : capG x = some c) : RepCap g H c v := by
  unfold capG at h
  split at h
  · cases h; exact hx
  · split at h
    · rename_i y hy
      cases h
      exact CV.toD0_rep hx hy
    · cases h
  · cases h
def RepSs (g : G) (H : Hp) (xs : List SV) (vs : List Value) : Prop := xs.length = vs.length ∧ ∀ (j : Nat) (x : SV) (v : Value), xs[j]? = some x → vs[j]? = some v → RepS g H x v
theorem ok_makeFunc {P : Program} {W0 : Fr} {K0 : Know} {g : G} {H : Hp} {w : World} {r : Res} {fn : Fn} {first caps : List SV} {vf vc : List Value} (hh : RelH W0 K0 g H w) (hf : RepSs g H first vf) (hc : RepSs g H caps vc) (h : aMF H fn first caps = some r) :
    RunOk P W0 K0 (vN (Instr.makeFunc fn vf.toArray vc.toArray)) g H w r := by
  unfold aMF at h
  split at h
  · rename_i ds hds
    cases h
    have : vf = [] := List.eq_nil_of_length_eq_zero (by have := hf.1; simp at this; omega)
    subst this
    refine RunOk.same hh (v := .func fn #[] vc.toArray) (by rw [vN_run]; simp [Instr.makeFunc]) ?_
    obtain ⟨h1, h2⟩ := mapO_get hds
    refine Rep.fn (h1.trans hc.1) (fun j x v hx hv => ?_)
    obtain ⟨s, hs, hsx⟩ := h2 j x hx
    cases s with
    | c y => exact CV.toD_rep hh (hc.2 j _ v hs hv) hsx
    | agg cs => simp [capD] at hsx
  · split at h
    · rename_i cs h1 h2
      cases h
      have e1 := (mapO_get h1).1
      have : vf = [] := List.eq_nil_of_length_eq_zero (by have := hf.1; simp at e1; omega)
      subst this
      refine RunOk.same hh (v := .func fn #[] vc.toArray) (by rw [vN_run]; simp [Instr.makeFunc]) ?_
      obtain ⟨e2, e3⟩ := mapO_get h2
      refine ⟨vc, rfl, e2.trans hc.1, fun j x v hx hv => ?_⟩
      obtain ⟨s, hs, hsx⟩ := e3 j x hx
      exact capG_rep (hc.2 j _ v hs hv) hsx
    · rename_i c bs h1 h2
      cases h
      have e1 := (mapO_get h2).1
      have : vc = [] := List.eq_nil_of_length_eq_zero (by have := hc.1; simp at e1; omega)
      subst this
      refine RunOk.same hh (v := .func fn vf.toArray #[]) (by rw [vN_run]; simp [Instr.makeFunc]) ?_
      obtain ⟨e2, e3⟩ := mapO_get h1
      refine ⟨vf, rfl, e2.trans hf.1, fun j x v hx hv => ?_⟩
      obtain ⟨s, hs, hsx⟩ := e3 j x hx
      exact capG_rep (hf.2 j _ v hs hv) hsx
    · cases h
def aXt (x : SV) (i : Nat) : Option Res :=
  match x with
  | .c (.d (.tup rs)) => match rs[i]? with
    | some y => some (Res.pure (SV.ofD y))
    | none => none
  | _ => none
theorem ok_extract {P : Program} {W0 : Fr} {K0 : Know} {g : G} {H : Hp} {w : World} {r : Res} {x : SV} {i : Nat} {v : Value} (hh : RelH W0 K0 g H w) (hx : RepS g H x v) (h : aXt x i = some r) :
    RunOk P W0 K0 (vN (Instr.extract v i)) g H w r := by
  unfold aXt at h
  split at h
  · rename_i rs
    split at h
    · rename_i y hy
      cases h
      have hx : Rep g.K (.tup rs) v := hx
      cases hx with
      | tup hl hv =>
        rename_i vs
        have hlt : i < vs.length := by have := (List.getElem?_eq_some_iff.1 hy).1; omega
        refine RunOk.same hh (v := vs[i]) (by rw [vN_run]; simp [Instr.extract, hlt]) (ofD_rep (hv i y vs[i] hy (List.getElem?_eq_getElem hlt)) g H rfl)
    · cases h
  · cases h
end Go.Proofs.YtepcpdionlfkhaaGreatDoor
namespace Go.Proofs.YtepcpdionlfkhaaGreatDoor
open Go Go.RowKit
set_option linter.unusedVariables false
set_option linter.unusedSimpArgs false
theorem RelH.drew {W0 : Fr} {K0 : Know} {g : G} {H : Hp} {w : World} (hh : RelH W0 K0 g H w) : RelH W0 K0 g H w.drew :=
  ⟨hh.below.trans (Below.refl _ _).drew, hh.ext, hh.kw, hh.holds, hh.base, hh.dom, hh.sep, hh.frozlt, hh.glob, hh.lent⟩
/-- The list has moved to a row of its own. -/
theorem RelH.newrow {W0 : Fr} {K0 : Know} {g : G} {H : Hp} {w : World} {τ e sz n' cp : Nat} {vs : List Value} {cur : Array Value} (hh : RelH W0 K0 g H w) (hτ : H τ = none ∨ ∃ e n, H τ = some (.row e sz n) ∧ n < n')
    (hv : ∀ (j : Nat) v, vs[j]? = some v → cur[j]? = some v) (hsz : cur.size = cp * sz) (hn : n' ≤ cp) (hl : vs.length = n' * sz) :
    RelH W0 K0 ⟨Kadd g.K w.heap.size vs, upd g.β τ (some w.heap.size), upd g.cap τ cp⟩ (upd H τ (some (.row e sz n'))) (w.alloc (.cells cur e)) ∧
    GLe g H ⟨Kadd g.K w.heap.size vs, upd g.β τ (some w.heap.size), upd g.cap τ cp⟩ (upd H τ (some (.row e sz n'))) := by
  have he := Kadd_ext hh.kw vs
  have hb := below_alloc w (.cells cur e)
  have hnb : ∀ i, isRow (H i) = false → ∀ b, g.β i = some b → i ≠ τ := fun i hi b hbi e => by
    subst e
    rcases hτ with h | ⟨e, n, h, _⟩
    · rw [hh.dom i h] at hbi; cases hbi
    · rw [h] at hi; simp [isRow] at hi
  have hle : GLe g H ⟨Kadd g.K w.heap.size vs, upd g.β τ (some w.heap.size), upd g.cap τ cp⟩ (upd H τ (some (.row e sz n'))) := by
    intro x v r
    cases x with
    | any => trivial
    | d x => exact Rep.mono he.1 r
    | own i off =>
      obtain ⟨b, hbi, rfl, hnr⟩ := r
      have hne := hnb i hnr b hbi
      exact ⟨b, (upd_ne _ _ hne).trans hbi, rfl, by rw [upd_ne _ _ hne]; exact hnr⟩
    | full s xs => exact ⟨r.1.mono he.1, r.2⟩
    | clo f caps => exact clo_mono r he.1 (fun i off v ⟨b, hbi, hv, hnr⟩ => ⟨b, (upd_ne _ _ (hnb i hnr b hbi)).trans hbi, hv, by rw [upd_ne _ _ (hnb i hnr b hbi)]; exact hnr⟩)
    | bnd f caps => exact bnd_mono r he.1 (fun i off v ⟨b, hbi, hv, hnr⟩ => ⟨b, (upd_ne _ _ (hnb i hnr b hbi)).trans hbi, hv, by rw [upd_ne _ _ (hnb i hnr b hbi)]; exact hnr⟩)
    | yld i => exact yld_mono r (fun i off v ⟨b, hbi, hv, hnr⟩ => ⟨b, (upd_ne _ _ (hnb i hnr b hbi)).trans hbi, hv, by rw [upd_ne _ _ (hnb i hnr b hbi)]; exact hnr⟩)
    | mt i k => exact mut_same (MLe.upd (fun _ _ _ _ h => by rcases hτ with q | ⟨_, _, q, _⟩ <;> (rw [q] at h; cases h)) (fun i h => upd_ne _ _ h) (fun i h => upd_ne _ _ h)) r
    | mpt i k o => exact mpt_same (MLe.upd (fun _ _ _ _ h => by rcases hτ with q | ⟨_, _, q, _⟩ <;> (rw [q] at h; cases h)) (fun i h => upd_ne _ _ h) (fun i h => upd_ne _ _ h)) r
    | mp i => exact mp_mono r (fun i off v ⟨b, hbi, hv, hnr⟩ => ⟨b, (upd_ne _ _ (hnb i hnr b hbi)).trans hbi, hv, by rw [upd_ne _ _ (hnb i hnr b hbi)]; exact hnr⟩)
    | view i s off len =>
      obtain ⟨b, c, hbi, rfl, hc, hnr⟩ := r
      have hne := hnb i hnr b hbi
      exact ⟨b, c, (upd_ne _ _ hne).trans hbi, rfl, hc, by rw [upd_ne _ _ hne]; exact hnr⟩
    | app σ s xs =>
      obtain ⟨r1, e', n, hrow, hle', hf⟩ := r
      by_cases hst : σ = τ
      · subst hst
        rcases hτ with h | ⟨e2, n2, h, hlt⟩
        · rw [h] at hrow; cases hrow
        · rw [h] at hrow; cases hrow
          exact ⟨r1.mono he.1, e, n', upd_same _ _ _, by omega, fun h => by omega⟩
      · refine ⟨r1.mono he.1, e', n, by rw [upd_ne _ _ hst]; exact hrow, hle', fun h => ?_⟩
        rcases hf h with h4 | ⟨b, hb4, hv4⟩
        · exact .inl h4
        · exact .inr ⟨b, (upd_ne _ _ hst).trans hb4, by show v = .slice _ _ (upd g.cap τ cp σ); rw [upd_ne _ _ hst]; exact hv4⟩
  refine ⟨⟨hh.below.trans hb, hh.ext.trans he hh.below.size, Kadd_kw hh.kw vs cur e (0, 0) hv, ?_, ?_, ?_, ?_, ?_, hh.glob, hh.lent.trans hle⟩, hle⟩
  · intro i he' hi
    by_cases hne : i = τ
    · subst hne
      rw [upd_same] at hi
      cases hi
      intro b hbi
      have : some w.heap.size = some b := (upd_same g.β i (some w.heap.size)).symm.trans hbi
      cases this
      exact ⟨cur, heap_new w _, by show _ = upd g.cap i cp i * sz; rw [upd_same]; exact hsz, by show n' ≤ upd g.cap i cp i; rw [upd_same]; exact hn, fun o ho => by
        show Kadd _ _ _ _ _ = none
        unfold Kadd; rw [if_pos rfl]; exact List.getElem?_eq_none (by omega)⟩
    · rw [upd_ne _ _ hne] at hi
      have := hh.holds i he' hi
      have hk : ∀ b o, b < w.heap.size → Kadd g.K w.heap.size vs b o = g.K b o := fun b o h => he.2 b o h
      cases he' with
      | cells cs =>
        obtain ⟨b, vs', t', hβi, hheap, hr', h1', hn'⟩ := this
        exact ⟨b, vs', t', (upd_ne _ _ hne).trans hβi, (hb.block b (lt_of_heap hheap)).trans hheap, hr'.mono hle, h1', fun o => (hk b o (lt_of_heap hheap)).trans (hn' o)⟩
      | obj o =>
        obtain ⟨b, hβi, hheap, hn'⟩ := this
        exact ⟨b, (upd_ne _ _ hne).trans hβi, (hb.block b (lt_of_heap hheap)).trans hheap, fun o => (hk b o (lt_of_heap hheap)).trans (hn' o)⟩
      | froz ds =>
        obtain ⟨b, vs', hβi, hr', h1', hn'⟩ := this
        exact ⟨b, vs', (upd_ne _ _ hne).trans hβi, hr'.mono he.1, h1', fun j v hj => he.1 _ _ _ (hn' j v hj)⟩
      | mrow e2 sz2 n2 cs2 => exact mrow_holds this (upd_ne _ _ hne) (upd_ne _ _ hne) (fun b o h1 h2 => (hb.block b (lt_of_heap h2)).trans h2) hle (fun b o _ h1 h2 => (hk b o h2).trans h1)
      | ob cs2 p => exact ob_holds this (upd_ne _ _ hne) (upd_ne _ _ hne) (fun b o h1 h2 => (hb.block b (lt_of_heap h2)).trans h2) hle (fun b o _ h1 h2 => (hk b o h2).trans h1)
      | row e2 sz2 n2 =>
        intro b hβi
        have hβi' : g.β i = some b := (upd_ne g.β (some w.heap.size) hne).symm.trans hβi
        obtain ⟨cur2, hheap, h2, h3, h4⟩ := this b hβi'
        exact ⟨cur2, (hb.block b (lt_of_heap hheap)).trans hheap, by show _ = upd g.cap τ cp i * sz2; rw [upd_ne _ _ hne]; exact h2, by show n2 ≤ upd g.cap τ cp i; rw [upd_ne _ _ hne]; exact h3, fun o ho => (hk b o (lt_of_heap hheap)).trans (h4 o ho)⟩
  · intro i b hβi
    by_cases hne : i = τ
    · subst hne
      have : some w.heap.size = some b := (upd_same g.β i (some w.heap.size)).symm.trans hβi
      cases this; exact Fr.new hh.below.size
    · exact hh.base i b ((upd_ne g.β (some w.heap.size) hne).symm.trans hβi)
  · intro i hi
    by_cases hne : i = τ
    · subst hne; rw [upd_same] at hi; cases hi
    · rw [upd_ne _ _ hne] at hi
      exact (upd_ne _ _ hne).trans (hh.dom i hi)
  · intro i j b hi hj
    have key : ∀ i, upd g.β τ (some w.heap.size) i = some b → (i = τ ∧ b = w.heap.size) ∨ (i ≠ τ ∧ g.β i = some b) := by
      intro i hi
      by_cases hne : i = τ
      · subst hne; rw [upd_same] at hi; cases hi; exact .inl ⟨rfl, rfl⟩
      · rw [upd_ne _ _ hne] at hi; exact .inr ⟨hne, hi⟩
    rcases key i hi with ⟨rfl, rfl⟩ | ⟨h1, h2⟩
    · rcases key j hj with ⟨rfl, _⟩ | ⟨h3, h4⟩
      · rfl
      · have := hh.frozlt j _ h4; omega
    · rcases key j hj with ⟨rfl, rfl⟩ | ⟨h3, h4⟩
      · have := hh.frozlt i _ h2; omega
      · exact hh.sep i j b h2 h4
  · intro i b hβi
    by_cases hne : i = τ
    · subst hne
      have : some w.heap.size = some b := (upd_same g.β i (some w.heap.size)).symm.trans hβi
      cases this; exact lt_of_heap (heap_new w _)
    · have := hh.frozlt i b ((upd_ne g.β (some w.heap.size) hne).symm.trans hβi)
      have := hb.size; omega
def Kput (K : Know) (b off : Nat) (vs : List Value) : Know := fun b' o => if b' = b ∧ off ≤ o ∧ o < off + vs.length then vs[o - off]? else K b' o
/-- The list has grown in its row. -/
theorem RelH.inrow {W0 : Fr} {K0 : Know} {g : G} {H : Hp} {w : World} {τ e sz n m b : Nat} {us : List Value} {cur : Array Value} (hh : RelH W0 K0 g H w) (hτ : H τ = some (.row e sz n)) (hm : 0 < m) (hβ : g.β τ = some b)
    (hheap : w.heap[b]? = some (.cells cur e (0, 0))) (hsz : cur.size = g.cap τ * sz) (hn : n + m ≤ g.cap τ) (hl : us.length = m * sz) (hk : ∀ o, n * sz ≤ o → g.K b o = none) :
    RelH W0 K0 ⟨Kput g.K b (n * sz) us, g.β, g.cap⟩ (upd H τ (some (.row e sz (n + m)))) (w.setRow b (cur.toList.take (n * sz) ++ us ++ cur.toList.drop (n * sz + us.length)).toArray) ∧
    GLe g H ⟨Kput g.K b (n * sz) us, g.β, g.cap⟩ (upd H τ (some (.row e sz (n + m)))) := by
  have htot : n * sz + us.length ≤ cur.size := by rw [hl, hsz, ← Nat.add_mul]; exact Nat.mul_le_mul_right _ hn
  have hkle : KLe g.K (Kput g.K b (n * sz) us) := fun b' o v hv => by
    unfold Kput
    split
    · rename_i h; rw [h.1, hk o h.2.1] at hv; cases hv
    · exact hv
  have hoth : ∀ b' o, b' ≠ b → Kput g.K b (n * sz) us b' o = g.K b' o := fun b' o h => by unfold Kput; rw [if_neg (fun h' => h h'.1)]
  have hnb : ∀ i, isRow (H i) = false → i ≠ τ := fun i hi e => by subst e; rw [hτ] at hi; simp [isRow] at hi
  have hle : GLe g H ⟨Kput g.K b (n * sz) us, g.β, g.cap⟩ (upd H τ (some (.row e sz (n + m)))) := by
    intro x v r
    cases x with
    | any => trivial
    | d x => exact Rep.mono hkle r
    | own i off =>
      obtain ⟨b, hbi, rfl, hnr⟩ := r
      exact ⟨b, hbi, rfl, by rw [upd_ne _ _ (hnb i hnr)]; exact hnr⟩
    | full s xs => exact ⟨r.1.mono hkle, r.2⟩
    | clo f caps => exact clo_mono r hkle (fun i off v ⟨b, hbi, hv, hnr⟩ => ⟨b, hbi, hv, by rw [upd_ne _ _ (hnb i hnr)]; exact hnr⟩)
    | bnd f caps => exact bnd_mono r hkle (fun i off v ⟨b, hbi, hv, hnr⟩ => ⟨b, hbi, hv, by rw [upd_ne _ _ (hnb i hnr)]; exact hnr⟩)
    | yld i => exact yld_mono r (fun i off v ⟨b, hbi, hv, hnr⟩ => ⟨b, hbi, hv, by rw [upd_ne _ _ (hnb i hnr)]; exact hnr⟩)
    | mt i k => exact mut_same (MLe.upd (fun _ _ _ _ h => by rw [hτ] at h; cases h) (fun _ _ => rfl) (fun _ _ => rfl)) r
    | mpt i k o => exact mpt_same (MLe.upd (fun _ _ _ _ h => by rw [hτ] at h; cases h) (fun _ _ => rfl) (fun _ _ => rfl)) r
    | mp i => exact mp_mono r (fun i off v ⟨b, hbi, hv, hnr⟩ => ⟨b, hbi, hv, by rw [upd_ne _ _ (hnb i hnr)]; exact hnr⟩)
    | view i s off len =>
      obtain ⟨b, c, hbi, rfl, hc, hnr⟩ := r
      exact ⟨b, c, hbi, rfl, hc, by rw [upd_ne _ _ (hnb i hnr)]; exact hnr⟩
    | app σ s xs =>
      obtain ⟨r1, e', n2, hrow, hle', hf⟩ := r
      by_cases hst : σ = τ
      · subst hst
        rw [hτ] at hrow; cases hrow
        exact ⟨r1.mono hkle, e, n + m, upd_same _ _ _, by omega, fun h => by omega⟩
      · exact ⟨r1.mono hkle, e', n2, by rw [upd_ne _ _ hst]; exact hrow, hle', hf⟩
  have hset := setRow_heap w b cur (cur.toList.take (n * sz) ++ us ++ cur.toList.drop (n * sz + us.length)).toArray e (0, 0) hheap
  have hne0 : ∀ k, k ≠ b → (w.setRow b (cur.toList.take (n * sz) ++ us ++ cur.toList.drop (n * sz + us.length)).toArray).heap[k]? = w.heap[k]? := fun k hk => setRow_other w b k _ hk
  have hsize : (w.setRow b (cur.toList.take (n * sz) ++ us ++ cur.toList.drop (n * sz + us.length)).toArray).heap.size = w.heap.size := by simp [World.setRow]
  generalize hW : w.setRow b (cur.toList.take (n * sz) ++ us ++ cur.toList.drop (n * sz + us.length)).toArray = W at hset hne0 hsize
  have hWf : W.os = w.os ∧ W.tape = w.tape ∧ W.output = w.output := by subst hW; exact ⟨rfl, rfl, rfl⟩
  have hcell : ∀ o, W.cell? ⟨b, o, none⟩ = (splice cur.toList (n * sz) us)[o]? := fun o => by
    rw [cell_of_cells hset]; rfl
  have hsg := splice_get cur.toList us (n * sz) (by simpa using htot)
  refine ⟨⟨⟨hWf.1.trans hh.below.os, hWf.2.1.trans hh.below.tape, hWf.2.2.trans hh.below.output, by rw [hsize]; exact hh.below.size, fun k hk' => (hne0 k (Fr.ne hk' (hh.base τ b hβ))).trans (hh.below.block k hk')⟩, ?_, ?_, ?_, hh.base, ?_, hh.sep, ?_, hh.glob, hh.lent.trans hle⟩, hle⟩
  · exact ⟨hh.ext.1.trans hkle, fun b' o hb' => (hoth b' o (Fr.ne hb' (hh.base τ b hβ))).trans (hh.ext.2 b' o hb')⟩
  · intro b' o v hv
    by_cases hbb : b' = b
    · subst hbb
      have hv' : Kput g.K b' (n * sz) us b' o = some v := hv
      rw [hcell, hsg]
      unfold Kput at hv'
      by_cases h1 : o < n * sz
      · rw [if_pos h1]
        rw [if_neg (by omega)] at hv'
        have := hh.kw b' o v hv'
        simp only [World.cell?, hheap] at this
        simpa using this
      · rw [if_neg h1]
        by_cases h2 : o < n * sz + us.length
        · rw [if_pos h2]
          rw [if_pos ⟨rfl, by omega, h2⟩] at hv'
          exact hv'
        · rw [if_neg (fun h => h2 h.2.2), hk o (by omega)] at hv'; cases hv'
    · have hv' : Kput g.K b (n * sz) us b' o = some v := hv
      rw [hoth b' o hbb] at hv'
      rw [← hh.kw b' o v hv']
      exact World.cell?_of_block (hne0 b' hbb)
  · intro i he' hi
    by_cases hne : i = τ
    · subst hne
      rw [upd_same] at hi
      cases hi
      intro b' hbi
      have hbi : g.β i = some b' := hbi
      rw [hβ] at hbi; cases hbi
      refine ⟨_, hset, ?_, hn, fun o ho => ?_⟩
      · show _ = g.cap i * sz
        rw [← hsz]; simp; omega
      · show Kput _ _ _ _ _ _ = none
        unfold Kput
        rw [Nat.add_mul] at ho
        rw [if_neg (by omega)]; exact hk o (by omega)
    · rw [upd_ne _ _ hne] at hi
      have := hh.holds i he' hi
      have hbn : ∀ b', g.β i = some b' → b' ≠ b := fun b' h e => hne (hh.sep i τ b (e ▸ h) hβ)
      cases he' with
      | cells cs =>
        obtain ⟨b', vs', t', hβi, hheap', hr', h1', hn'⟩ := this
        exact ⟨b', vs', t', hβi, (hne0 b' (hbn b' hβi)).trans hheap', hr'.mono hle, h1', fun o => (hoth b' o (hbn b' hβi)).trans (hn' o)⟩
      | obj o =>
        obtain ⟨b', hβi, hheap', hn'⟩ := this
        exact ⟨b', hβi, (hne0 b' (hbn b' hβi)).trans hheap', fun o => (hoth b' o (hbn b' hβi)).trans (hn' o)⟩
      | froz ds =>
        obtain ⟨b', vs', hβi, hr', h1', hn'⟩ := this
        exact ⟨b', vs', hβi, hr'.mono hkle, h1', fun j v hj => hkle _ _ _ (hn' j v hj)⟩
      | mrow e2 sz2 n2 cs2 => exact mrow_holds this rfl rfl (fun b' o h1 h2 => (hne0 b' (hbn b' h1)).trans h2) hle (fun b' o h1 h2 _ => (hoth b' o (hbn b' h1)).trans h2)
      | ob cs2 p => exact ob_holds this rfl rfl (fun b' o h1 h2 => (hne0 b' (hbn b' h1)).trans h2) hle (fun b' o h1 h2 _ => (hoth b' o (hbn b' h1)).trans h2)
      | row e2 sz2 n2 =>
        intro b' hβi
        obtain ⟨cur2, hheap', h2, h3, h4⟩ := this b' hβi
        exact ⟨cur2, (hne0 b' (hbn b' hβi)).trans hheap', h2, h3, fun o ho => (hoth b' o (hbn b' hβi)).trans (h4 o ho)⟩
  · intro i hi
    by_cases hne : i = τ
    · subst hne; rw [upd_same] at hi; cases hi
    · rw [upd_ne _ _ hne] at hi
      exact hh.dom i hi
  · intro i b' hb'; rw [hsize]; exact hh.frozlt i b' hb'
theorem run_append_none {P : Program} {t e ty : TypeId} {j : TypeInfo} (hu : P.underlying t = some (.slice e)) (hj : P.info? e = some j) (a a2 : Option Addr) (n c c2 : Nat) (h : n ≤ c) (w : World) :
    (Builtin.append_ #[t, t] ty #[.slice a n c, .slice a2 0 c2]).run P w = .ok (.slice a n c) w := by
  unfold Builtin.append_
  cases a2 <;> cases a <;> simp [run_underlying hu, run_sizeOf hj, Builtin.lenOf, h, Builtin.firstCells, loadCells, loadCellsFrom, storeCells]
theorem RepL.append {K : Know} {a b : List D} {u v : List Value} (h : RepL K a u) (h' : RepL K b v) : RepL K (a ++ b) (u ++ v) := by
  refine ⟨by simp [h.1, h'.1], fun j x y hx hy => ?_⟩
  have e := h.1
  rcases Nat.lt_or_ge j a.length with hj | hj
  · rw [List.getElem?_append_left hj] at hx
    rw [List.getElem?_append_left (by omega)] at hy
    exact h.2 j x y hx hy
  · rw [List.getElem?_append_right hj] at hx
    rw [List.getElem?_append_right (by omega), ← e] at hy
    exact h'.2 _ x y hx hy
def aAppend (P : Program) (t : TypeId) (H : Hp) (nx : Nat) (x y : SV) : Option (Res × Nat) :=
  match esize P t with
  | some (e, sz, bb, zs) => if 0 < sz ∧ zs.length = sz then match x, y with
      | .c cx, .c cy => match cx.lstOf sz, cy.lstOf sz with
        | some xs, some ys => match cx with
          | .app τ _ _ => match H τ with
            | some (.row e' s' n) => if e' = e ∧ s' = sz ∧ n = xs.length then some (⟨.c (.app τ sz (xs ++ ys)), some (τ, .row e sz (xs.length + ys.length)), [τ], false⟩, (xs.length + ys.length) * bb) else none
            | _ => none
          | .full _ _ => match H nx with
            | none => some (⟨.c (.app nx sz (xs ++ ys)), some (nx, .row e sz (xs.length + ys.length)), [nx], true⟩, (xs.length + ys.length) * bb)
            | some _ => none
          | .d (.val (.slice none 0 0)) => match H nx with
            | none => some (⟨.c (.app nx sz (xs ++ ys)), some (nx, .row e sz (xs.length + ys.length)), [nx], true⟩, (xs.length + ys.length) * bb)
            | some _ => none
          | _ => none
        | _, _ => none
      | _, _ => none
    else none
  | none => none
theorem append_grows {P : Program} {W0 : Fr} {K0 : Know} {g : G} {H : Hp} {w : World} {t e ty τ sz bb : Nat} {zs : List Value} {xs ys : List (List D)} {a : Option Addr} {c : Nat} {v2 : Value} (hh : RelH W0 K0 g H w)
    (hes : esize P t = some (e, sz, bb, zs)) (hsz : 0 < sz) (hzs : zs.length = sz) (hτ : H τ = none ∨ ∃ e, H τ = some (.row e sz xs.length)) (hx : Rep g.K (.lst sz xs) (.slice a xs.length c)) (hy : Rep g.K (.lst sz ys) v2)
    (hc : c < xs.length + ys.length) (hm : 0 < ys.length) (hac : a = none → c = 0) (hb : (xs.length + ys.length) * bb ≤ 140737488355328) (h63 : xs.length + ys.length ≤ maxLen) :
    ∃ v' w' g', (Builtin.append_ #[t, t] ty #[.slice a xs.length c, v2]).run P w = .ok v' w' ∧ RepC g' (upd H τ (some (.row e sz (xs.length + ys.length)))) (.app τ sz (xs ++ ys)) v' ∧
      RelH W0 K0 g' (upd H τ (some (.row e sz (xs.length + ys.length)))) w' ∧ GLe g H g' (upd H τ (some (.row e sz (xs.length + ys.length)))) := by
  obtain ⟨hu, j, z, u, hj, hz, hs, hby, hzz, _⟩ := esize_spec hes
  subst hs
  obtain ⟨a2, c2, us, rfl, hs2, hc2, hr2, h12, hk2⟩ := hy.inv
  obtain ⟨b2, o2, rfl, hkk2⟩ := hk2 (by intro e; rw [e] at hm; simp at hm)
  obtain ⟨a', c', vs, e1, hs1, hc1, hr1, h11, hk1⟩ := hx.inv
  cases e1
  have hl1 : vs.length = xs.length * j.size := by rw [← hr1.1, flat_len hs1]
  have hl2 : us.length = ys.length * j.size := by rw [← hr2.1, flat_len hs2]
  have hsmall : ((xs.length + ys.length : Nat) : Int) ≤ 9223372036854775807 := by unfold maxLen at h63; omega
  have hnews : ∀ (i : Nat) v, us[i]? = some v → w.cell? ((⟨b2, o2, none⟩ : Addr).add i) = some v := fun i v hi => by rw [Addr.add_lit]; exact hh.kw _ _ _ (hkk2 i v hi)
  have hge := grownCap_ge w (xs.length + ys.length) c e
  have hrun : (Builtin.append_ #[t, t] ty #[.slice a xs.length c, .slice (some ⟨b2, o2, none⟩) ys.length c2]).run P w = .ok (.slice (some ⟨w.heap.size, 0, none⟩) (xs.length + ys.length) (grownCap w (xs.length + ys.length) c e))
      (w.drew.alloc (.cells (vs.toArray ++ us.toArray ++ Builtin.zeroCells z.cells (grownCap w (xs.length + ys.length) c e - (xs.length + ys.length))) e)) := by
    cases a with
    | some ad =>
      refine run_append_grow (P := P) w t ty e j z hu hj hz ad xs.length c vs hl1 ?_ ⟨b2, o2, none⟩ ys.length c2 us hl2 hnews hc hsmall (growslice_fits hc (by rw [hby]; exact hb))
      intro i v hi
      have hne : xs ≠ [] := by intro e; rw [e] at hl1; simp at hl1; rw [hl1] at hi; simp at hi
      obtain ⟨b, o, e, hkk⟩ := hk1 hne
      cases e
      rw [Addr.add_lit]; exact hh.kw _ _ _ (hkk i v hi)
    | none =>
      have hx0 : xs = [] := by
        by_cases h : xs = []
        · exact h
        · obtain ⟨b, o, e, _⟩ := hk1 h; cases e
      subst hx0
      obtain rfl := hac rfl
      have : vs = [] := List.eq_nil_of_length_eq_zero (by simpa using hl1)
      subst this
      have := run_append_nil (P := P) w t ty e j z hu hj hz ⟨b2, o2, none⟩ ys.length c2 us hl2 hnews hm (by simpa using hsmall) (by rw [hby]; simp at hb; omega)
      simpa using this
  have hcur : (vs.toArray ++ us.toArray ++ Builtin.zeroCells z.cells (grownCap w (xs.length + ys.length) c e - (xs.length + ys.length))).size = grownCap w (xs.length + ys.length) c e * j.size := by
    have hz2 : z.cells.size = j.size := by rw [← hzs, hzz]; simp
    simp only [Array.size_append, List.size_toArray, size_zeroCells, hz2, hl1, hl2, ← Nat.add_mul]
    congr 1; omega
  obtain ⟨h1, h2⟩ := RelH.newrow (τ := τ) (e := e) (sz := j.size) (n' := xs.length + ys.length) (vs := vs ++ us) hh.drew
    (hτ.imp id (fun ⟨e, h⟩ => ⟨e, _, h, by omega⟩)) (fun i v hi => by
      have hlt := (List.getElem?_eq_some_iff.1 hi).1
      rw [Array.getElem?_append_left (by simpa using hlt)]
      simpa using hi) hcur hge (by simp [hl1, hl2, Nat.add_mul])
  refine ⟨_, _, _, hrun, ⟨?_, e, _, upd_same _ _ _, by simp, fun _ => .inr ⟨_, upd_same _ _ _, ?_⟩⟩, h1, h2⟩
  · have hL := (hr1.append hr2).mono (Kadd_ext hh.kw (vs ++ us)).1
    have hfl : (xs ++ ys).flatten = xs.flatten ++ ys.flatten := by simp
    have := Rep.lst (K := Kadd g.K w.heap.size (vs ++ us)) (sz := j.size) (xs := xs ++ ys) (vs := vs ++ us) (a := some ⟨w.heap.size, 0, none⟩) (c := grownCap w (xs.length + ys.length) c e)
      (fun x hx => (List.mem_append.1 hx).elim (hs1 x) (hs2 x)) (by simpa using hge) (by rw [hfl]; exact hL.1) (by rw [hfl]; exact hL.2) (fun u hu => (List.mem_append.1 hu).elim (h11 u) (h12 u))
      (fun _ => ⟨w.heap.size, 0, rfl, fun i v hi => by unfold Kadd; rw [if_pos rfl, Nat.zero_add]; exact hi⟩)
    rw [List.length_append] at this
    exact this
  · rw [List.length_append]
    show _ = Value.slice _ _ (upd _ _ _ _)
    rw [upd_same]; rfl
theorem ok_append {P : Program} {W0 : Fr} {K0 : Know} {g : G} {H : Hp} {w : World} {r : Res} {t ty : TypeId} {nx tot : Nat} {x y : SV} {v1 v2 : Value} (hh : RelH W0 K0 g H w) (hx : RepS g H x v1) (hy : RepS g H y v2) (h : aAppend P t H nx x y = some (r, tot))
    (htot : tot ≤ 140737488355328) (hbb : ∀ e sz bb zs, esize P t = some (e, sz, bb, zs) → 0 < bb) :
    RunOk P W0 K0 (vN (Builtin.append_ #[t, t] ty #[v1, v2])) g H w r := by
  unfold aAppend at h
  split at h
  · rename_i e sz bb zs hes
    split at h
    · rename_i hc0
      obtain ⟨hsz, hzs⟩ := hc0
      split at h
      · rename_i cx cy
        split at h
        · rename_i xs ys hxs hys
          have hbp := hbb e sz bb zs hes
          have hrx := CV.lstOf_rep hx hxs
          have hry := CV.lstOf_rep hy hys
          obtain ⟨hu, j, z, u, hj, hz, hs, hby, hzz, _⟩ := esize_spec hes
          -- nothing is appended
          have hnone : ∀ τ, ys = [] → (cx = .app τ sz xs ∧ H τ = some (.row e sz xs.length)) ∨ (H τ = none ∧ ∃ a, v1 = .slice a xs.length xs.length) →
              RunOk P W0 K0 (vN (Builtin.append_ #[t, t] ty #[v1, v2])) g H w ⟨.c (.app τ sz (xs ++ ys)), some (τ, .row e sz (xs.length + ys.length)), [τ], (H τ).isNone⟩ := by
            intro τ hy0 hcase
            subst hy0
            obtain ⟨a, c, vs, rfl, _, hcap, _⟩ := hrx.inv
            obtain ⟨a2, c2, vs2, rfl, _⟩ := hry.inv
            have hrun : (vN (Builtin.append_ #[t, t] ty #[.slice a xs.length c, .slice a2 ([] : List (List D)).length c2])).run P w = .ok (.value (.slice a xs.length c)) w := by
              rw [vN_run, show ([] : List (List D)).length = 0 from rfl, run_append_none hu hj a a2 xs.length c c2 hcap]; rfl
            rcases hcase with ⟨rfl, hrow⟩ | ⟨hnone, a', hfull⟩
            · have hH : hup H (some (τ, .row e sz (xs.length + ([] : List (List D)).length))) = H := by
                funext i
                simp only [hup, List.length_nil, Nat.add_zero]
                by_cases hi : i = τ
                · subst hi; rw [upd_same]; exact hrow.symm
                · rw [upd_ne _ _ hi]
              refine ⟨_, _, w, g, hrun, .inl rfl, ?_, by rw [hH]; exact hh, by rw [hH]; exact GLe.refl _ _⟩
              rw [hH]; simp only [List.append_nil]; exact hx
            · have hβ : g.β τ = none := hh.dom τ hnone
              have hle : GLe g H g (upd H τ (some (.row e sz xs.length))) := by
                intro x v r
                cases x with
                | own i off =>
                  obtain ⟨b, hb, rfl, hnr⟩ := r
                  have hne : i ≠ τ := fun e => by subst e; rw [hβ] at hb; cases hb
                  exact ⟨b, hb, rfl, by rw [upd_ne _ _ hne]; exact hnr⟩
                | clo f caps => exact clo_mono r (KLe.refl _) (fun i off v ⟨b, hb, hv, hnr⟩ => ⟨b, hb, hv, by rw [upd_ne _ _ (fun e => by subst e; rw [hβ] at hb; cases hb)]; exact hnr⟩)
                | bnd f caps => exact bnd_mono r (KLe.refl _) (fun i off v ⟨b, hb, hv, hnr⟩ => ⟨b, hb, hv, by rw [upd_ne _ _ (fun e => by subst e; rw [hβ] at hb; cases hb)]; exact hnr⟩)
                | yld i => exact yld_mono r (fun i off v ⟨b, hb, hv, hnr⟩ => ⟨b, hb, hv, by rw [upd_ne _ _ (fun e => by subst e; rw [hβ] at hb; cases hb)]; exact hnr⟩)
                | mt i k => exact mut_same (MLe.upd (fun _ _ _ _ h => by rw [hnone] at h; cases h) (fun _ _ => rfl) (fun _ _ => rfl)) r
                | mpt i k o => exact mpt_same (MLe.upd (fun _ _ _ _ h => by rw [hnone] at h; cases h) (fun _ _ => rfl) (fun _ _ => rfl)) r
                | mp i => exact mp_mono r (fun i off v ⟨b, hb, hv, hnr⟩ => ⟨b, hb, hv, by rw [upd_ne _ _ (fun e => by subst e; rw [hβ] at hb; cases hb)]; exact hnr⟩)
                | view i s off len =>
                  obtain ⟨b, c, hb, rfl, hc, hnr⟩ := r
                  have hne : i ≠ τ := fun e => by subst e; rw [hβ] at hb; cases hb
                  exact ⟨b, c, hb, rfl, hc, by rw [upd_ne _ _ hne]; exact hnr⟩
                | app i s xs' =>
                  obtain ⟨r1, e', n, hrow, hl, hf⟩ := r
                  have hne : i ≠ τ := fun e => by subst e; rw [hnone] at hrow; cases hrow
                  exact ⟨r1, e', n, by rw [upd_ne _ _ hne]; exact hrow, hl, hf⟩
                | _ => exact r
              refine ⟨_, _, w, g, hrun, .inl rfl, ?_, ?_, ?_⟩
              · simp only [hup, List.length_nil, Nat.add_zero, List.append_nil]
                exact ⟨hrx, e, _, upd_same _ _ _, Nat.le_refl _, fun _ => .inl ⟨a', hfull⟩⟩
              · simp only [hup, List.length_nil, Nat.add_zero]
                refine ⟨hh.below, hh.ext, hh.kw, fun i he hi => ?_, hh.base, fun i hi => ?_, hh.sep, hh.frozlt, hh.glob, hh.lent.trans hle⟩
                · by_cases hne : i = τ
                  · subst hne; rw [upd_same] at hi; cases hi
                    intro b hb; rw [hβ] at hb; cases hb
                  · rw [upd_ne _ _ hne] at hi
                    have := hh.holds i he hi
                    cases he with
                    | cells cs =>
                      obtain ⟨b, vs, t, h1, h2, h3, h4⟩ := this
                      exact ⟨b, vs, t, h1, h2, h3.mono hle, h4⟩
                    | obj o => exact this
                    | froz ds => exact this
                    | mrow e2 s2 n2 cs2 => exact mrow_holds this rfl rfl (fun _ _ _ q => q) hle (fun _ _ _ q _ => q)
                    | ob cs2 p => exact ob_holds this rfl rfl (fun _ _ _ q => q) hle (fun _ _ _ q _ => q)
                    | row e s n => exact this
                · by_cases hne : i = τ
                  · subst hne; rw [upd_same] at hi; cases hi
                  · rw [upd_ne _ _ hne] at hi; exact hh.dom i hi
              · simp only [hup, List.length_nil, Nat.add_zero]; exact hle
          have hml : (xs.length + ys.length) * bb ≤ 140737488355328 → xs.length + ys.length ≤ maxLen := fun h => by
            have : xs.length + ys.length ≤ (xs.length + ys.length) * bb := Nat.le_mul_of_pos_right _ hbp
            unfold maxLen; omega
          have hfin : H nx = none → (∃ a, v1 = .slice a xs.length xs.length) → (xs.length + ys.length) * bb ≤ 140737488355328 → RunOk P W0 K0 (vN (Builtin.append_ #[t, t] ty #[v1, v2])) g H w ⟨.c (.app nx sz (xs ++ ys)), some (nx, .row e sz (xs.length + ys.length)), [nx], true⟩ := by
            intro hnx hfull htot
            by_cases hy0 : ys = []
            · have := hnone nx hy0 (.inr ⟨hnx, hfull⟩)
              rw [hnx] at this
              exact this
            · have hm : 0 < ys.length := by
                rcases Nat.eq_zero_or_pos ys.length with h0 | h0
                · exact absurd (List.eq_nil_of_length_eq_zero h0) hy0
                · exact h0
              obtain ⟨a, rfl⟩ := hfull
              have : a = none → xs.length = 0 := fun h => by
                obtain ⟨a', c', vs, e1, _, _, _, _, hk⟩ := hrx.inv
                cases e1
                by_cases hx0 : xs = []
                · rw [hx0]; rfl
                · obtain ⟨b, o, e, _⟩ := hk hx0; rw [h] at e; cases e
              obtain ⟨v', w', g', h1, h2, h3, h4⟩ := append_grows (ty := ty) hh hes hsz hzs (.inl hnx) hrx hry (by omega) hm this htot (hml htot)
              exact ⟨_, _, _, _, by rw [vN_run, h1]; rfl, .inl rfl, h2, h3, h4⟩
          split at h
          · rename_i τ s' xs'
            simp only [CV.lstOf] at hxs
            split at hxs
            · rename_i es
              subst es
              cases hxs
              split at h
              · rename_i e' s'' n hrow
                split at h
                · rename_i hcc
                  obtain ⟨rfl, rfl, rfl⟩ := hcc
                  cases h
                  by_cases hy0 : ys = []
                  · have := hnone τ hy0 (.inl ⟨rfl, hrow⟩)
                    rw [hrow] at this
                    exact this
                  · have hm : 0 < ys.length := by
                      rcases Nat.eq_zero_or_pos ys.length with h0 | h0
                      · exact absurd (List.eq_nil_of_length_eq_zero h0) hy0
                      · exact h0
                    obtain ⟨_, e2, n2, hrow2, hl, hf⟩ := hx
                    rw [hrow] at hrow2
                    cases hrow2
                    have fin : ∀ {v' w' g'}, (Builtin.append_ #[t, t] ty #[v1, v2]).run P w = .ok v' w' → RepC g' (upd H τ (some (.row e' s'' (xs.length + ys.length)))) (.app τ s'' (xs ++ ys)) v' →
                        RelH W0 K0 g' (upd H τ (some (.row e' s'' (xs.length + ys.length)))) w' → GLe g H g' (upd H τ (some (.row e' s'' (xs.length + ys.length)))) →
                        RunOk P W0 K0 (vN (Builtin.append_ #[t, t] ty #[v1, v2])) g H w ⟨.c (.app τ s'' (xs ++ ys)), some (τ, .row e' s'' (xs.length + ys.length)), [τ], false⟩ := fun hr h1 h2 h3 =>
                      ⟨_, _, _, _, by rw [vN_run, hr]; rfl, .inl rfl, h1, h2, h3⟩
                    rcases hf rfl with ⟨a, rfl⟩ | ⟨b, hb, rfl⟩
                    · have : a = none → xs.length = 0 := fun h => by
                        obtain ⟨a', c', vs, e1, _, _, _, _, hk⟩ := hrx.inv
                        cases e1
                        by_cases hx0 : xs = []
                        · rw [hx0]; rfl
                        · obtain ⟨b, o, e, _⟩ := hk hx0; rw [h] at e; cases e
                      obtain ⟨v', w', g', h1, h2, h3, h4⟩ := append_grows (ty := ty) hh hes hsz hzs (.inr ⟨e', hrow⟩) hrx hry (by omega) hm this htot (hml htot)
                      exact fin h1 h2 h3 h4
                    · obtain ⟨cur, hheap, hcs, hcn, hkn⟩ := hh.holds τ _ hrow b hb
                      by_cases hroom : xs.length + ys.length ≤ g.cap τ
                      · subst hs
                        obtain ⟨a2, c2, us, rfl, hs2, hc2, hr2, h12, hk2⟩ := hry.inv
                        obtain ⟨b2, o2, rfl, hkk2⟩ := hk2 hy0
                        have hl2 : us.length = ys.length * j.size := by rw [← hr2.1, flat_len hs2]
                        have hnews : ∀ (i : Nat) v, us[i]? = some v → w.cell? ((⟨b2, o2, none⟩ : Addr).add i) = some v := fun i v hi => by rw [Addr.add_lit]; exact hh.kw _ _ _ (hkk2 i v hi)
                        have hfit : xs.length * j.size + us.length ≤ cur.size := by rw [hl2, hcs, ← Nat.add_mul]; exact Nat.mul_le_mul_right _ hroom
                        have hr := run_append_room (P := P) w t ty e' j hu hj b xs.length (g.cap τ) cur hheap ⟨b2, o2, none⟩ ys.length c2 us hl2 hnews h12 hroom hfit
                        obtain ⟨h1, h2⟩ := RelH.inrow hh hrow hm hb hheap hcs hroom hl2 hkn
                        refine fin hr ?_ h1 h2
                        obtain ⟨a', c', vs, e1, hs1, hc1, hr1, h11, hk1⟩ := hrx.inv
                        cases e1
                        have hl1 : vs.length = xs.length * j.size := by rw [← hr1.1, flat_len hs1]
                        have hkle : KLe g.K (Kput g.K b (xs.length * j.size) us) := fun b' o v hv => by
                          unfold Kput
                          split
                          · rename_i h; rw [h.1, hkn o h.2.1] at hv; cases hv
                          · exact hv
                        have hL := (hr1.append hr2).mono hkle
                        have hfl : (xs ++ ys).flatten = xs.flatten ++ ys.flatten := by simp
                        have hrep := Rep.lst (K := Kput g.K b (xs.length * j.size) us) (sz := j.size) (xs := xs ++ ys) (vs := vs ++ us) (a := some ⟨b, 0, none⟩) (c := g.cap τ)
                          (fun x hx => (List.mem_append.1 hx).elim (hs1 x) (hs2 x)) (by simpa using hroom) (by rw [hfl]; exact hL.1) (by rw [hfl]; exact hL.2) (fun u hu => (List.mem_append.1 hu).elim (h11 u) (h12 u))
                          (fun _ => ⟨b, 0, rfl, fun i v hi => by
                            rw [Nat.zero_add]
                            rcases Nat.lt_or_ge i vs.length with hi2 | hi2
                            · rw [List.getElem?_append_left hi2] at hi
                              have hne : xs ≠ [] := by intro e; rw [e] at hl1; simp at hl1; rw [hl1] at hi2; simp at hi2
                              obtain ⟨b', o', e, hkk⟩ := hk1 hne
                              cases e
                              have := hkk i v hi
                              rw [Nat.zero_add] at this
                              exact hkle _ _ _ this
                            · rw [List.getElem?_append_right hi2] at hi
                              have hlt := (List.getElem?_eq_some_iff.1 hi).1
                              unfold Kput
                              rw [if_pos ⟨rfl, by omega, by omega⟩, ← hl1]; exact hi⟩)
                        rw [List.length_append] at hrep
                        exact ⟨hrep, e', _, upd_same _ _ _, by simp, fun _ => .inr ⟨b, hb, by rw [List.length_append]⟩⟩
                      · obtain ⟨v', w', g', h1, h2, h3, h4⟩ := append_grows (ty := ty) hh hes hsz hzs (.inr ⟨e', hrow⟩) hrx hry (by omega) hm (fun h => by cases h) htot (hml htot)
                        exact fin h1 h2 h3 h4
                · cases h
              · cases h
            · cases hxs
          · split at h
            · rename_i hnx
              cases h
              exact hfin hnx (by
                simp only [CV.lstOf] at hxs
                split at hxs
                · cases hxs; exact hx.2
                · cases hxs) htot
            · cases h
          · split at h
            · rename_i hnx
              cases h
              exact hfin hnx (by
                simp only [CV.lstOf] at hxs
                cases hxs
                have hx : Rep g.K (.val (.slice none 0 0)) v1 := hx
                cases hx; exact ⟨none, rfl⟩) htot
            · cases h
          · cases h
        · cases h
      · cases h
    · cases h
  · cases h
end Go.Proofs.YtepcpdionlfkhaaGreatDoor
namespace Go.Proofs.YtepcpdionlfkhaaGreatDoor
open Go Go.RowKit
set_option linter.unusedVariables false
set_option linter.unusedSimpArgs false
/-- The value is a list to which its holder alone may append. -/
def Appable (K : Know) (B : Nat) (w : World) (e sz n : Nat) (v : Value) : Prop := (∃ a, v = .slice a n n) ∨ ∃ b cap cur, v = .slice (some ⟨b, 0, none⟩) n cap ∧ B ≤ b ∧ w.heap[b]? = some (.cells cur e (0, 0)) ∧ cur.size = cap * sz ∧ n ≤ cap ∧ ∀ o, n * sz ≤ o → K b o = none
/-- A call's list is taken over: a token of one's own. -/
theorem RelH.gotrow {W0 : Fr} {K0 : Know} {g : G} {H : Hp} {w' : World} {nx e sz n0 : Nat} {xs : List (List D)} {v : Value} (hh : RelH W0 K0 g H w') (hnx : H nx = none) (hr : Rep g.K (.lst sz xs) v) (hap : Appable g.K n0 w' e sz xs.length v)
    (hdummy : ∀ b, n0 ≤ b → True) (hlt : ∀ i b, g.β i = some b → b < n0) (hn0 : W0.W.heap.size ≤ n0) :
    ∃ g', RelH W0 K0 g' (upd H nx (some (.row e sz xs.length))) w' ∧ GLe g H g' (upd H nx (some (.row e sz xs.length))) ∧ RepC g' (upd H nx (some (.row e sz xs.length))) (.app nx sz xs) v := by
  have hβ : g.β nx = none := hh.dom nx hnx
  have hne : ∀ i b, g.β i = some b → i ≠ nx := fun i b h e => by subst e; rw [hβ] at h; cases h
  have key : ∀ (β' : Nat → Option Nat) (c' : Nat → Nat), (∀ i, i ≠ nx → β' i = g.β i) → (∀ i, i ≠ nx → c' i = g.cap i) → GLe g H { g with β := β', cap := c' } (upd H nx (some (.row e sz xs.length))) := by
    intro β' c' h1 h2 x v r
    cases x with
    | any => trivial
    | d x => exact r
    | full s ys => exact r
    | own i off =>
      obtain ⟨b, hb, rfl, hnr⟩ := r
      have := hne i b hb
      exact ⟨b, (h1 i this).trans hb, rfl, by rw [upd_ne _ _ this]; exact hnr⟩
    | clo f caps => exact clo_mono r (KLe.refl _) (fun i off v ⟨b, hb, hv, hnr⟩ => ⟨b, (h1 i (hne i b hb)).trans hb, hv, by rw [upd_ne _ _ (hne i b hb)]; exact hnr⟩)
    | bnd f caps => exact bnd_mono r (KLe.refl _) (fun i off v ⟨b, hb, hv, hnr⟩ => ⟨b, (h1 i (hne i b hb)).trans hb, hv, by rw [upd_ne _ _ (hne i b hb)]; exact hnr⟩)
    | yld i => exact yld_mono r (fun i off v ⟨b, hb, hv, hnr⟩ => ⟨b, (h1 i (hne i b hb)).trans hb, hv, by rw [upd_ne _ _ (hne i b hb)]; exact hnr⟩)
    | mt i k => exact mut_same (MLe.upd (fun _ _ _ _ h => by rw [hnx] at h; cases h) h1 h2) r
    | mpt i k o => exact mpt_same (MLe.upd (fun _ _ _ _ h => by rw [hnx] at h; cases h) h1 h2) r
    | mp i => exact mp_mono r (fun i off v ⟨b, hb, hv, hnr⟩ => ⟨b, (h1 i (hne i b hb)).trans hb, hv, by rw [upd_ne _ _ (hne i b hb)]; exact hnr⟩)
    | view i s off len =>
      obtain ⟨b, c, hb, rfl, hc, hnr⟩ := r
      have := hne i b hb
      exact ⟨b, c, (h1 i this).trans hb, rfl, hc, by rw [upd_ne _ _ this]; exact hnr⟩
    | app i s ys =>
      obtain ⟨r1, e', n, hrow, hl, hf⟩ := r
      have hi : i ≠ nx := fun e => by subst e; rw [hnx] at hrow; cases hrow
      refine ⟨r1, e', n, by rw [upd_ne _ _ hi]; exact hrow, hl, fun hn => ?_⟩
      rcases hf hn with h | ⟨b, hb, hv⟩
      · exact .inl h
      · exact .inr ⟨b, (h1 i hi).trans hb, by show v = .slice _ _ (c' i); rw [h2 i hi]; exact hv⟩
  have hold : ∀ (β' : Nat → Option Nat) (c' : Nat → Nat), (∀ i, i ≠ nx → β' i = g.β i) → (∀ i, i ≠ nx → c' i = g.cap i) → ∀ i he, i ≠ nx → H i = some he → HoldsE { g with β := β', cap := c' } (upd H nx (some (.row e sz xs.length))) w' i he := by
    intro β' c' h1 h2 i he hi hH
    have := hh.holds i he hH
    have hle := key β' c' h1 h2
    cases he with
    | cells cs =>
      obtain ⟨b, vs, t, hb, hheap, hrr, ho, hn⟩ := this
      exact ⟨b, vs, t, (h1 i hi).trans hb, hheap, hrr.mono hle, ho, hn⟩
    | obj o =>
      obtain ⟨b, hb, hheap, hn⟩ := this
      exact ⟨b, (h1 i hi).trans hb, hheap, hn⟩
    | froz ds =>
      obtain ⟨b, vs, hb, hrr⟩ := this
      exact ⟨b, vs, (h1 i hi).trans hb, hrr⟩
    | mrow e2 s2 n2 cs2 => exact mrow_holds this (h1 i hi) (h2 i hi) (fun _ _ _ q => q) hle (fun _ _ _ q _ => q)
    | ob cs2 p => exact ob_holds this (h1 i hi) (h2 i hi) (fun _ _ _ q => q) hle (fun _ _ _ q _ => q)
    | row e2 s2 n2 =>
      intro b hb
      obtain ⟨cur, q1, q2, q3, q4⟩ := this b ((h1 i hi).symm.trans hb)
      exact ⟨cur, q1, by show _ = c' i * s2; rw [h2 i hi]; exact q2, by show n2 ≤ c' i; rw [h2 i hi]; exact q3, q4⟩
  rcases hap with ⟨a, rfl⟩ | ⟨b, cp, cur, rfl, hB, hheap, hcs, hcn, hkn⟩
  · refine ⟨{ g with β := g.β, cap := g.cap }, ⟨hh.below, hh.ext, hh.kw, fun i he hi => ?_, hh.base, fun i hi => ?_, hh.sep, hh.frozlt, hh.glob, hh.lent.trans (key g.β g.cap (fun _ _ => rfl) (fun _ _ => rfl))⟩, key g.β g.cap (fun _ _ => rfl) (fun _ _ => rfl), hr, e, _, upd_same _ _ _, Nat.le_refl _, fun _ => .inl ⟨a, rfl⟩⟩
    · by_cases h : i = nx
      · subst h; rw [upd_same] at hi; cases hi
        intro b hb; rw [hβ] at hb; cases hb
      · rw [upd_ne _ _ h] at hi; exact hold g.β g.cap (fun _ _ => rfl) (fun _ _ => rfl) i he h hi
    · by_cases h : i = nx
      · subst h; rw [upd_same] at hi; cases hi
      · rw [upd_ne _ _ h] at hi; exact hh.dom i hi
  · have hu : ∀ i, i ≠ nx → upd g.β nx (some b) i = g.β i := fun i hi => upd_ne _ _ hi
    have hu2 : ∀ i, i ≠ nx → upd g.cap nx cp i = g.cap i := fun i hi => upd_ne _ _ hi
    refine ⟨{ g with β := upd g.β nx (some b), cap := upd g.cap nx cp }, ⟨hh.below, hh.ext, hh.kw, fun i he hi => ?_, fun i b' hi => ?_, fun i hi => ?_, fun i j b' hi hj => ?_, fun i b' hi => ?_, hh.glob, hh.lent.trans (key _ _ hu hu2)⟩, key _ _ hu hu2, hr, e, _, upd_same _ _ _, Nat.le_refl _, fun _ => .inr ⟨b, upd_same _ _ _, by show _ = Value.slice _ _ (upd g.cap nx cp nx); rw [upd_same]⟩⟩
    · by_cases h : i = nx
      · subst h; rw [upd_same] at hi; cases hi
        intro b' hb'
        have hb' : upd g.β i (some b) i = some b' := hb'
        rw [upd_same] at hb'; cases hb'
        exact ⟨cur, hheap, by show _ = upd g.cap i cp i * sz; rw [upd_same]; exact hcs, by show _ ≤ upd g.cap i cp i; rw [upd_same]; exact hcn, hkn⟩
      · rw [upd_ne _ _ h] at hi; exact hold _ _ hu hu2 i he h hi
    · have hi : upd g.β nx (some b) i = some b' := hi
      by_cases h : i = nx
      · subst h; rw [upd_same] at hi; cases hi; exact Fr.new (by omega)
      · rw [upd_ne _ _ h] at hi; exact hh.base i b' hi
    · by_cases h : i = nx
      · subst h; rw [upd_same] at hi; cases hi
      · rw [upd_ne _ _ h] at hi; exact (hu i h).trans (hh.dom i hi)
    · have hi : upd g.β nx (some b) i = some b' := hi
      have hj : upd g.β nx (some b) j = some b' := hj
      by_cases h : i = nx
      · by_cases h' : j = nx
        · rw [h, h']
        · subst h; rw [upd_same] at hi; cases hi
          rw [upd_ne _ _ h'] at hj
          have := hlt j _ hj; omega
      · by_cases h' : j = nx
        · subst h'; rw [upd_same] at hj; cases hj
          rw [upd_ne _ _ h] at hi
          have := hlt i _ hi; omega
        · rw [upd_ne _ _ h] at hi; rw [upd_ne _ _ h'] at hj
          exact hh.sep i j b' hi hj
    · have hi : upd g.β nx (some b) i = some b' := hi
      by_cases h : i = nx
      · subst h; rw [upd_same] at hi; cases hi; exact lt_of_heap hheap
      · rw [upd_ne _ _ h] at hi; exact hh.frozlt i b' hi
def aMakeSlice (P : Program) (H : Hp) (nx : Nat) (t : TypeId) (x y : SV) : Option Res :=
  match esize P t with
  | some (e, sz, bb, zs) => match H nx with
    | some _ => none
    | none => match x.nat, y.nat with
      | some l, some c => if 0 < bb ∧ bb * c ≤ 140737488355328 ∧ zs.length = sz ∧ 0 < sz ∧ zs.all (·.oneCell') = true then
          (if l = 0 then some ⟨.c (.app nx sz []), some (nx, .row e sz 0), [nx], true⟩
          else if l = c then some ⟨.c (.view nx sz 0 c), some (nx, .cells ((zrow zs c).map fun v => .d (.val v))), [nx], true⟩ else none) else none
      | _, _ => none
  | none => none
theorem ok_makeSlice {P : Program} {W0 : Fr} {K0 : Know} {g : G} {H : Hp} {w : World} {r : Res} {t : TypeId} {nx : Nat} {x y : SV} {v u : Value} (hh : RelH W0 K0 g H w) (hx : RepS g H x v) (hy : RepS g H y u) (h : aMakeSlice P H nx t x y = some r) :
    RunOk P W0 K0 (vN (Instr.makeSlice t v u)) g H w r := by
  unfold aMakeSlice at h
  split at h
  rotate_left
  · cases h
  rename_i e sz bb zs hes
  obtain ⟨hu, j, z, uu, hj, hz, hs, hby, hzs, _⟩ := esize_spec hes
  split at h
  · cases h
  rename_i hnx
  split at h
  rotate_left
  · cases h
  rename_i l c hl hc
  obtain ⟨kl, rfl⟩ := SV.nat_rep hx hl
  obtain ⟨kc, rfl⟩ := SV.nat_rep hy hc
  split at h
  rotate_left
  · cases h
  rename_i hcond
  obtain ⟨hb0, hbb, hzl, hsz, hz1⟩ := hcond
  have hcc : c ≤ bb * c := Nat.le_mul_of_pos_left c hb0
  have hbytes : (j.bytes : Int) * (c : Int) ≤ 281474976710656 := by
    have h : ((bb * c : Nat) : Int) ≤ 281474976710656 := by omega
    rw [hby]; rwa [Int.natCast_mul] at h
  have hrun : ∀ l' : Nat, l' ≤ c → (Instr.makeSlice t (.int kl l') (.int kc c)).run P w = .ok (.slice (some ⟨w.heap.size, 0, none⟩) l' c) (w.alloc (.cells (madeCells z.cells (c * j.size)) e)) := fun l' hle => by
    have := run_make (P := P) w t e j z hu hj hz kl kc l' c (by omega) (by omega) hbytes (by omega)
    simpa using this
  have hrow : madeCells z.cells (c * j.size) = (zrow zs c).toArray := by
    rw [zrow_eq zs (by omega) c, hzl, hs]
    unfold madeCells
    subst hzs
    apply Array.ext'
    simp [zeroRow]
  rw [hrow] at hrun
  have hlen : (zrow zs c).length = c * sz := by rw [zrow_len, hzl]
  split at h
  · rename_i h0
    cases h
    subst h0
    obtain ⟨h1, h2, h3⟩ := new_list (P := P) (sz := sz) (n := 0) (ds := []) (vs := []) e (zrow zs c) hh ⟨rfl, fun j x v hx => by simp at hx⟩ (by simp) (by simp) c (Nat.zero_le _)
    rw [List.nil_append] at h1
    obtain ⟨g', h4, h5, h6⟩ := RelH.gotrow (nx := nx) (e := e) (sz := sz) (n0 := w.heap.size) (xs := []) h1 hnx h3 (.inr ⟨w.heap.size, c, (zrow zs c).toArray, rfl, Nat.le_refl _, World.alloc_heap_new w _, by simpa using hlen, Nat.zero_le _, fun o _ => by show Kadd _ _ _ _ _ = none; unfold Kadd; simp⟩) (fun _ _ => trivial) (fun i b hb => hh.frozlt i b hb) hh.below.size
    exact ⟨_, _, _, g', by rw [vN_run, hrun 0 (Nat.zero_le _)]; rfl, .inl rfl, h6, h4, h2.trans h5⟩
  · split at h
    · rename_i hlc
      cases h
      subst hlc
      have hone : ∀ u ∈ zrow zs l, u.oneCell' = true := fun u hu => by
        obtain ⟨i, hi, rfl⟩ := List.getElem_of_mem hu
        have hg := zrow_get zs (by omega) l i (by rw [← zrow_len]; exact hi)
        have := List.getElem?_eq_getElem hi
        rw [hg] at this
        exact List.all_eq_true.1 hz1 _ (List.mem_of_getElem? this)
      obtain ⟨h2, h3⟩ := RelH.box e hh hnx (vals_rep g H (zrow zs l)) hone
      exact ⟨_, _, _, _, by rw [vN_run, hrun l (Nat.le_refl _)]; rfl, .inl rfl, ⟨w.heap.size, l, upd_same _ _ _, rfl, Nat.le_refl _, by simp [hup, upd_same, isRow]⟩, h2, h3⟩
    · cases h
end Go.Proofs.YtepcpdionlfkhaaGreatDoor
namespace Go.Proofs.YtepcpdionlfkhaaGreatDoor
open Go Go.RowKit
set_option linter.unusedVariables false
set_option linter.unusedSimpArgs false
def byteD (c : UInt8) : List D := [.val (.int .u8 c.toNat)]
def byteOf : List D → Option UInt8
  | [.val (.int .u8 n)] => if 0 ≤ n ∧ n < 256 then some (UInt8.ofNat n.toNat) else none
  | _ => none
theorem byteOf_spec {x : List D} {c : UInt8} (h : byteOf x = some c) : x = byteD c := by
  unfold byteOf at h
  split at h
  · rename_i n
    split at h
    · rename_i hn
      cases h
      unfold byteD
      have : ((UInt8.ofNat n.toNat).toNat : Int) = n := by
        rw [UInt8.toNat_ofNat']; omega
      rw [this]
    · cases h
  · cases h
theorem byteOf_byteD (c : UInt8) : byteOf (byteD c) = some c := by
  have h1 := c.toNat_lt
  have h2 : (0 : Int) ≤ (c.toNat : Int) ∧ (c.toNat : Int) < 256 := by omega
  show (if (0 : Int) ≤ (c.toNat : Int) ∧ (c.toNat : Int) < 256 then some (UInt8.ofNat (c.toNat : Int).toNat) else none) = _
  rw [if_pos h2, Int.toNat_natCast, UInt8.ofNat_toNat]
theorem bytesOf_map : ∀ l : List UInt8, mapO byteOf (l.map byteD) = some l
  | [] => rfl
  | c :: l => by
    simp only [List.map_cons, mapO, byteOf_byteD, bytesOf_map l]
theorem bytesOf_nil : mapO byteOf [] = some [] := rfl
theorem bytesOf_spec : ∀ {xs : List (List D)} {l : List UInt8}, mapO byteOf xs = some l → xs = l.map byteD
  | [], l, h => by simp [mapO] at h; subst h; rfl
  | x :: xs, l, h => by
    simp only [mapO] at h
    cases h1 : byteOf x with
    | none => rw [h1] at h; cases h
    | some c =>
      cases h2 : mapO byteOf xs with
      | none => rw [h1, h2] at h; cases h
      | some m =>
        rw [h1, h2] at h
        cases h
        rw [List.map_cons, ← byteOf_spec h1, ← bytesOf_spec h2]
def aCX (P : Program) (s d : TypeId) (v : Value) : Option Res := match v with
  | .string b => match P.underlying s, P.underlying d with
    | some .string, some (.slice e) => match P.underlying e with
      | some (.int .u8) => some (Res.pure (.c (.d (.lst 1 (b.toList.map byteD)))))
      | _ => none
    | _, _ => sc P (convert s d (.string b))
  | v => sc P (convert s d v)
def aCL (P : Program) (s d : TypeId) (x : SV) : Option Res := match x with
  | .c cx => match cx.lstOf 1 with
    | some xs => match P.underlying s, P.underlying d with
      | some (.slice e), some .string => match P.underlying e with
        | some (.int .u8) => match mapO byteOf xs with
          | some l => some (Res.pure (.c (.d (.val (.string ⟨l.toArray⟩)))))
          | none => none
        | _ => none
      | _, _ => none
    | none => none
  | _ => none
theorem flat_bytes : ∀ l : List UInt8, (l.map byteD).flatten = l.map fun c => D.val (.int .u8 c.toNat)
  | [] => rfl
  | c :: l => by rw [List.map_cons, List.flatten_cons, flat_bytes l]; rfl
theorem ok_convX {P : Program} {W0 : Fr} {K0 : Know} {s d : TypeId} {v : Value} {g : G} {H : Hp} {w : World} {r : Res} (hh : RelH W0 K0 g H w) (h : aCX P s d v = some r) : RunOk P W0 K0 (vN (convert s d v)) g H w r := by
  unfold aCX at h
  split at h
  · rename_i b
    split at h
    · rename_i e hs hd
      split at h
      · rename_i he
        cases h
        have hrun := run_bytes_of_string w s d e b hs hd he
        have hdata : b.data.toList = b.toList := (ByteArray.toList_mk b.data.toList).symm
        have hbt : ∀ (j : Nat) v, (b.toList.map fun c => Value.int .u8 c.toNat)[j]? = some v → (bytesRow b (grownCap w b.size 0 e))[j]? = some v := fun j v hj => by
          have hl := (List.getElem?_eq_some_iff.1 hj).1
          have e1 : (bytesRow b (grownCap w b.size 0 e)).toList = (b.toList.map fun c => Value.int .u8 c.toNat) ++ List.replicate (grownCap w b.size 0 e - b.size) (.int .u8 0) := by
            unfold bytesRow
            simp [hdata]
          rw [← Array.getElem?_toList, e1, List.getElem?_append_left hl]; exact hj
        have hcap : b.size ≤ grownCap w b.size 0 e := grownCap_ge w b.size 0 e
        have hlen : b.toList.length = b.size := by rw [← hdata]; rfl
        have hx := Kadd_ext hh.kw (b.toList.map fun c => Value.int .u8 c.toNat)
        have hkw := Kadd_kw (w := w.drew) hh.drew.kw (b.toList.map fun c => Value.int .u8 c.toNat) (bytesRow b (grownCap w b.size 0 e)) e ((bytesRow b (grownCap w b.size 0 e)).size, (bytesRow b (grownCap w b.size 0 e)).size + 1) hbt
        have hg := hh.drew.grow (below_alloc w.drew (.cells (bytesRow b (grownCap w b.size 0 e)) e ((bytesRow b (grownCap w b.size 0 e)).size, (bytesRow b (grownCap w b.size 0 e)).size + 1))) hx hkw
        refine ⟨_, _, _, _, by rw [vN_run, hrun]; rfl, .inl rfl, ?_, hg, GLe.ofK hx.1⟩
        have hrep : Rep (Kadd g.K w.heap.size (b.toList.map fun c => Value.int .u8 c.toNat)) (.lst 1 (b.toList.map byteD)) (.slice (some ⟨w.heap.size, 0, none⟩) (b.toList.map byteD).length (grownCap w b.size 0 e)) := by
          refine Rep.lst (vs := b.toList.map fun c => Value.int .u8 c.toNat) (fun x hx => ?_) (by simpa [hlen] using hcap) (by rw [flat_bytes]; simp) (fun j x v hx hv => ?_) (fun u hu => ?_) (fun _ => ⟨w.heap.size, 0, rfl, fun j v hj => ?_⟩)
          · obtain ⟨c, _, rfl⟩ := List.mem_map.1 hx; rfl
          · rw [flat_bytes] at hx
            simp only [List.getElem?_map, Option.map_eq_some_iff] at hx hv
            obtain ⟨c, hc, rfl⟩ := hx
            obtain ⟨c', hc', rfl⟩ := hv
            rw [hc] at hc'; cases hc'
            exact .val _
          · obtain ⟨c, _, rfl⟩ := List.mem_map.1 hu; rfl
          · unfold Kadd; rw [if_pos rfl, Nat.zero_add]; exact hj
        rw [List.length_map, hlen] at hrep
        exact hrep
      · cases h
    · exact ok_sc hh h
  · exact ok_sc hh h
theorem ok_convL {P : Program} {W0 : Fr} {K0 : Know} {s d : TypeId} {x : SV} {v : Value} {g : G} {H : Hp} {w : World} {r : Res} (hh : RelH W0 K0 g H w) (hx : RepS g H x v) (h : aCL P s d x = some r) : RunOk P W0 K0 (vN (convert s d v)) g H w r := by
  unfold aCL at h
  split at h
  · rename_i cx
    split at h
    · rename_i xs hxs
      split at h
      · rename_i e hs hd
        split at h
        · rename_i he
          split at h
          · rename_i l hl
            cases h
            have hr := CV.lstOf_rep hx hxs
            obtain rfl := bytesOf_spec hl
            obtain ⟨a, c, vs, rfl, h1, h2, h3, h4, h5⟩ := hr.inv
            have hvs : vs = l.map fun c => Value.int .u8 c.toNat := by
              have hf := h3
              rw [flat_bytes] at hf
              apply List.ext_getElem
              · have := hf.1; simpa using this.symm
              · intro j hj hj'
                have := hf.2 j (D.val (.int .u8 (l[j]'(by simpa using hj')).toNat)) vs[j] (by simp [List.getElem?_map, List.getElem?_eq_getElem (show j < l.length by simpa using hj')]) (List.getElem?_eq_getElem hj)
                generalize vs[j] = u at this
                cases this
                simp
            refine RunOk.same hh (v := .string ⟨l.toArray⟩) ?_ (Rep.val _)
            rw [vN_run, List.length_map]
            have key : (convert s d (.slice a l.length c)).run P w = .ok (.string ⟨l.toArray⟩) w := by
              cases a with
              | none =>
                have : l = [] := by
                  cases l with
                  | nil => rfl
                  | cons q l => obtain ⟨b, off, hb, _⟩ := h5 (by simp); cases hb
                subst this
                exact run_convert_bytes_nil w s e hs he 0 c d hd
              | some ad =>
                refine run_convert_bytes_back w s d e ad c l hs he hd (fun j hj => ?_)
                obtain ⟨b, off, hb, hk⟩ := h5 (by intro hn; have : l = [] := by simpa using hn
                                                  subst this; simp at hj)
                cases hb
                rw [Addr.add_lit]
                exact hh.kw _ _ _ (hk j _ (by rw [hvs]; simp [List.getElem?_map, List.getElem?_eq_getElem hj]))
            rw [key]; rfl
          · cases h
        · cases h
      · cases h
    · cases h
  · cases h
theorem aConvX_up {P : Program} {s d : TypeId} {v : Value} {r : Res} (h : aCX P s d v = some r) : r.up = none := by
  have hs : ∀ {q : Sem Value}, sc P q = some r → r.up = none := fun h => by
    unfold sc at h; split at h <;> cases h; rfl
  unfold aCX at h
  split at h
  · split at h
    · split at h
      · cases h; rfl
      · cases h
    · exact hs h
  · exact hs h
theorem aConvL_up {P : Program} {s d : TypeId} {x : SV} {r : Res} (h : aCL P s d x = some r) : r.up = none := by
  unfold aCL at h
  (repeat' split at h) <;> first | (cases h; rfl) | (cases h; done)
/-- A copy of nothing, or to nowhere. -/
def aCy (P : Program) (t : TypeId) (x y : SV) : Option Res := match esize P t, x, y with
  | some _, .c cx, .c cy => match cx.lenOf, cy.lenOf with
    | some n, some m => if n = 0 ∨ m = 0 then some (Res.pure (.c (.d (.val (.int .i64 0))))) else none
    | _, _ => none
  | _, _, _ => none
theorem ok_copy {P : Program} {W0 : Fr} {K0 : Know} {t t' ty : TypeId} {x y : SV} {v u : Value} {g : G} {H : Hp} {w : World} {r : Res} (hh : RelH W0 K0 g H w) (hx : RepS g H x v) (hy : RepS g H y u) (h : aCy P t x y = some r) : RunOk P W0 K0 (vN (Builtin.copy_ #[t, t'] ty #[v, u])) g H w r := by
  unfold aCy at h
  split at h
  · rename_i q cx cy hes
    obtain ⟨e, sz, bb, zs⟩ := q
    obtain ⟨hu, j, z, uu, hj, hz, hs, hby, hzs, _⟩ := esize_spec hes
    split at h
    · rename_i n m hn hm
      split at h
      · rename_i h0
        cases h
        obtain ⟨a, c, rfl⟩ := CV.lenOf_rep hx hn
        obtain ⟨a2, c2, rfl⟩ := CV.lenOf_rep hy hm
        have hmin : Nat.min m n = 0 := by rcases h0 with h0 | h0 <;> subst h0 <;> simp [Nat.min_def]
        refine RunOk.same hh (v := .int .i64 0) ?_ (Rep.val _)
        rw [vN_run]
        unfold Builtin.copy_
        cases a2 <;> cases a <;> simp [run_underlying hu, run_sizeOf hj, Builtin.lenOf, hmin, Builtin.firstCells, loadCells, loadCellsFrom, storeCells, goInt] <;> rfl
      · cases h
    · cases h
  · cases h
theorem aCopy_up {P : Program} {t : TypeId} {x y : SV} {r : Res} (h : aCy P t x y = some r) : r.up = none := by
  unfold aCy at h
  (repeat' split at h) <;> first | (cases h; rfl) | (cases h; done)
end Go.Proofs.YtepcpdionlfkhaaGreatDoor
namespace Go.Proofs.YtepcpdionlfkhaaGreatDoor
open Go Go.RowKit
set_option linter.unusedVariables false
set_option linter.unusedSimpArgs false
def bodyOk (P : Program) (f : FuncId) : Bool :=
  match P.funcs[f]? with
  | some fn => !(fn.name == "runtime.NumGoroutine") && fn.body.isSome
  | none => false
/-- THE CONTRACT OF A FUNCTION: handed values that stand for args, it returns one that stands for r, and turns nothing that was there. -/
def Fun (P : Program) (f : FuncId) (args : List D) (r : D) : Prop := bodyOk P f = true ∧ ∀ (K : Know) (w : World) (vs : List Value), KLe BaseK K → KW K w → RepL K args vs →
  Calls P f vs.toArray w fun e w' => ∃ v K', e = .returned v ∧ Ext K K' w.heap.size ∧ KW K' w' ∧ Rep K' r v ∧ Below w.heap.size w w'
/-- The contract of a function that returns a list of its own. -/
def FunA (P : Program) (f : FuncId) (args : List D) (e sz : Nat) (xs : List (List D)) : Prop := bodyOk P f = true ∧ ∀ (K : Know) (w : World) (vs : List Value), KLe BaseK K → KW K w → RepL K args vs →
  Calls P f vs.toArray w fun en w' => ∃ v K', en = .returned v ∧ Ext K K' w.heap.size ∧ KW K' w' ∧ Rep K' (.lst sz xs) v ∧ Appable K' w.heap.size w' e sz xs.length v ∧ Below w.heap.size w w'
theorem FunA.fun {P : Program} {f : FuncId} {args : List D} {e sz : Nat} {xs : List (List D)} (h : FunA P f args e sz xs) : Fun P f args (.lst sz xs) :=
  ⟨h.1, fun K w vs hB hk hL => (h.2 K w vs hB hk hL).mono (fun en w' ⟨v, K', h1, h2, h3, h4, _, h5⟩ => ⟨v, K', h1, h2, h3, h4, h5⟩)⟩
/-! comparisons with nil -/
def nD0 : TypeDesc → SV → SV → Bool
  | .interface _, .c (.d (.iface _ _)), .c (.d (.val .nilIface)) => true
  | .interface _, .c (.d (.val .nilIface)), .c (.d (.iface _ _)) => true
  | .pointer _, .c (.own _ _), .c (.d (.val (.pointer none))) => true
  | .pointer _, .c (.d (.ptr _ _)), .c (.d (.val (.pointer none))) => true
  | .func _ _ _, .c (.d (.fn _ _)), .c (.d (.val .nilFunc)) => true
  | .slice _, .c (.d (.lst _ (_ :: _))), .c (.d (.val (.slice none 0 0))) => true
  | _, _, _ => false
def aBin (P : Program) (op : BinOp) (t : TypeId) (x y : Operand) (sx sy : SV) : Option Res :=
  match sx.exact, sy.exact with
  | some vx, some vy => sc P (do eqGuard op t x y vx vy; binOp op t vx vy)
  | _, _ => match P.underlying t with
    | some u => if nD0 u sx sy then match op with
        | .eql => some (Res.pure (.c (.d (.val (.bool false)))))
        | .neq => some (Res.pure (.c (.d (.val (.bool true)))))
        | _ => none
      else none
    | none => none
theorem ok_bin {P : Program} {W0 : Fr} {K0 : Know} {g : G} {H : Hp} {w : World} {r : Res} {op : BinOp} {t : TypeId} {x y : Operand} {sx sy : SV} {vx vy : Value} (hh : RelH W0 K0 g H w) (hx : RepS g H sx vx) (hy : RepS g H sy vy) (h : aBin P op t x y sx sy = some r) :
    RunOk P W0 K0 (vN (do eqGuard op t x y vx vy; binOp op t vx vy)) g H w r := by
  unfold aBin at h
  split at h
  · rename_i ux uy hux huy
    rw [SV.exact_rep hx hux, SV.exact_rep hy huy]
    exact ok_sc hh h
  · split at h
    · rename_i u hu
      split at h
      · rename_i hn
        have key : (Op.equal t vx vy).run P w = .ok false w ∧ (∀ a, (eqGuard .eql t x y vx vy).run P w = .ok a w ∨ True) ∧ ((∃ t v, vx = .iface t v ∧ vy = .nilIface) ∨ (∃ t v, vx = .nilIface ∧ vy = .iface t v) ∨ (∃ a, vx = .pointer (some a) ∧ vy = .pointer none) ∨ (∃ f a b, vx = .func f a b ∧ vy = .nilFunc) ∨ (∃ a n c, vx = .slice (some a) n c ∧ vy = .slice none 0 0)) := by
          unfold nD0 at hn
          split at hn
          · have hx : Rep g.K (.iface _ _) vx := hx
            have hy : Rep g.K (.val .nilIface) vy := hy
            cases hx; cases hy
            refine ⟨?_, fun _ => .inr trivial, .inl ⟨_, _, rfl, rfl⟩⟩
            unfold Op.equal; rw [show Op.maxDepth = 9999 + 1 from rfl]; unfold Op.equalIn
            simp [run_underlying hu]
          · have hx : Rep g.K (.val .nilIface) vx := hx
            have hy : Rep g.K (.iface _ _) vy := hy
            cases hx; cases hy
            refine ⟨?_, fun _ => .inr trivial, .inr (.inl ⟨_, _, rfl, rfl⟩)⟩
            unfold Op.equal; rw [show Op.maxDepth = 9999 + 1 from rfl]; unfold Op.equalIn
            simp [run_underlying hu]
          · obtain ⟨b, hb, rfl, _⟩ := hx
            have hy : Rep g.K (.val (.pointer none)) vy := hy
            cases hy
            refine ⟨?_, fun _ => .inr trivial, .inr (.inr (.inl ⟨_, rfl, rfl⟩))⟩
            unfold Op.equal; rw [show Op.maxDepth = 9999 + 1 from rfl]; unfold Op.equalIn
            simp [run_underlying hu]
          · have hx : Rep g.K (.ptr _ _) vx := hx
            have hy : Rep g.K (.val (.pointer none)) vy := hy
            cases hx; cases hy
            refine ⟨?_, fun _ => .inr trivial, .inr (.inr (.inl ⟨_, rfl, rfl⟩))⟩
            unfold Op.equal; rw [show Op.maxDepth = 9999 + 1 from rfl]; unfold Op.equalIn
            simp [run_underlying hu]
          · have hx : Rep g.K (.fn _ _) vx := hx
            have hy : Rep g.K (.val .nilFunc) vy := hy
            cases hx; cases hy
            refine ⟨?_, fun _ => .inr trivial, .inr (.inr (.inr (.inl ⟨_, _, _, rfl, rfl⟩)))⟩
            unfold Op.equal; rw [show Op.maxDepth = 9999 + 1 from rfl]; unfold Op.equalIn
            simp [run_underlying hu]
          · have hx : Rep g.K (.lst _ (_ :: _)) vx := hx
            have hy : Rep g.K (.val (.slice none 0 0)) vy := hy
            obtain ⟨a, c, us, rfl, _, _, _, _, hk⟩ := hx.inv
            obtain ⟨b, off, rfl, _⟩ := hk (by simp)
            cases hy
            refine ⟨?_, fun _ => .inr trivial, .inr (.inr (.inr (.inr ⟨_, _, _, rfl, rfl⟩)))⟩
            unfold Op.equal; rw [show Op.maxDepth = 9999 + 1 from rfl]; unfold Op.equalIn
            simp [run_underlying hu]
          · cases hn
        obtain ⟨heq, _, hsh⟩ := key
        have hb1 : binOp .eql t vx vy = (do pure (.bool (← Op.equal t vx vy))) := by
          rcases hsh with ⟨_, _, rfl, rfl⟩ | ⟨_, _, rfl, rfl⟩ | ⟨_, rfl, rfl⟩ | ⟨_, _, _, rfl, rfl⟩ | ⟨_, _, _, rfl, rfl⟩ <;> rfl
        have hb2 : binOp .neq t vx vy = (do pure (.bool (!(← Op.equal t vx vy)))) := by
          rcases hsh with ⟨_, _, rfl, rfl⟩ | ⟨_, _, rfl, rfl⟩ | ⟨_, rfl, rfl⟩ | ⟨_, _, _, rfl, rfl⟩ | ⟨_, _, _, rfl, rfl⟩ <;> rfl
        have hg : ∀ op, (eqGuard op t x y vx vy).run P w = .ok () w := by
          intro op
          unfold eqGuard
          rcases hsh with ⟨_, _, rfl, rfl⟩ | ⟨_, _, rfl, rfl⟩ | ⟨_, rfl, rfl⟩ | ⟨_, _, _, rfl, rfl⟩ | ⟨_, _, _, rfl, rfl⟩ <;> (split <;> rfl)
        split at h
        · cases h
          exact RunOk.same hh (v := .bool false) (by rw [vN_run, hb1]; simp [hg, heq]) (Rep.val _)
        · cases h
          exact RunOk.same hh (v := .bool true) (by rw [vN_run, hb2]; simp [hg, heq]) (Rep.val _)
        · cases h
      · cases h
    · cases h
def pLk : SV → Bool
  | .c (.own _ _) => true
  | .c (.d (.ptr _ _)) => true
  | .c (.d (.iface _ _)) => true
  | .c (.d (.fn (.func _) _)) => true
  | _ => false
def aop (P : Program) (op : Op) (ρ : Operand → SV) (H : Hp) (nx : Nat) : Option Res :=
  match op with
  | .move x => some (Res.pure (ρ x))
  | .assign x => some (Res.pure (ρ x))
  | .pick c a b => match (ρ c).exact with
    | some (.bool t) => some (Res.pure (if t then ρ a else ρ b))
    | _ => none
  | .alloc t => aAlloc P H nx t
  | .box _ x => aBox H nx (ρ x)
  | .build t ps => aBuild P t (ps.toList.map fun p => (p.1, ρ p.2))
  | .buildSlice t len ps => aBuildSlice P t len (ps.toList.map fun p => (p.1, ρ p.2))
  | .load t a => aLd P t H (ρ a)
  | .store t a x => aSt P t H (ρ a) (ρ x)
  | .nilCheck x => if pLk (ρ x) then some (Res.pure (ρ x)) else none
  | .binOp op t x y _ => aBin P op t x y (ρ x) (ρ y)
  | .unOp op _ x => match (ρ x).exact with
    | some v => sc P (Op.unary op v)
    | none => none
  | .convert s d x => match (ρ x).exact with
    | some v => aCX P s d v
    | none => aCL P s d (ρ x)
  | .makeInterface t x => aIf P t H (ρ x)
  | .makeFunc fn first caps => aMF H fn (first.toList.map ρ) (caps.toList.map ρ)
  | .slice t x lo hi mx => aSl P t (ρ x) (lo.map ρ) (hi.map ρ) (mx.map ρ)
  | .fieldAddr s x f => aFd P s f (ρ x)
  | .field t x f => aPt P t f (ρ x)
  | .indexAddr t x i => aIndexAddr P t (ρ x) (ρ i)
  | .index t x i => match (ρ x).exact, (ρ i).exact with
    | some v, some u => sc P (Instr.index t v u)
    | _, _ => none
  | .extract x i => aXt (ρ x) i
  | .makeSlice t l c => aMakeSlice P H nx t (ρ l) (ρ c)
  | _ => none
theorem parts_rep {g : G} {H : Hp} {ρ : Operand → SV} {a : Act} : ∀ (ps : List (Nat × Operand)), (∀ p ∈ ps, RepS g H (ρ p.2) (a.eval p.2)) → RepParts g H (ps.map fun p => (p.1, ρ p.2)) (ps.map fun p => (p.1, a.eval p.2))
  | [], _ => trivial
  | p :: ps, h => ⟨rfl, h p (by simp), parts_rep ps (fun q hq => h q (by simp [hq]))⟩
theorem list_rep {g : G} {H : Hp} {ρ : Operand → SV} {a : Act} (ps : List Operand) (h : ∀ p ∈ ps, RepS g H (ρ p) (a.eval p)) : RepSs g H (ps.map ρ) (ps.map a.eval) :=
  ⟨by simp, fun j x v hx hv => by
    simp only [List.getElem?_map, Option.map_eq_some_iff] at hx hv
    obtain ⟨p, hp, rfl⟩ := hx
    obtain ⟨q, hq, rfl⟩ := hv
    rw [hp] at hq; cases hq
    exact h p (List.mem_of_getElem? hp)⟩
theorem omap_rep {g : G} {H : Hp} {ρ : Operand → SV} {a : Act} (o : Option Operand) (h : ∀ x, o = some x → RepS g H (ρ x) (a.eval x)) :
    match o.map ρ, o.map a.eval with | none, none => True | some x, some v => RepS g H x v | _, _ => False := by
  cases o with
  | none => trivial
  | some x => exact h x rfl
theorem aop_sound {P : Program} {W0 : Fr} {K0 : Know} {o : Oper} {ρ : Operand → SV} {H : Hp} {nx : Nat} {r : Res} {g : G} {a : Act} {w : World} (hh : RelH W0 K0 g H w) (hρ : ∀ x ∈ o.op.operands, RepS g H (ρ x) (a.eval x)) (h : aop P o.op ρ H nx = some r) :
    RunOk P W0 K0 (execOp a.eval o) g H w r := by
  obtain ⟨dst, op, type, pos, after, guard⟩ := o
  cases op <;> simp only [Op.operands] at hρ <;> simp only [aop] at h <;> (try (cases h; done)) <;> simp only [execOp]
  case move x => cases h; exact RunOk.same hh rfl (hρ x (by simp))
  case assign x => cases h; exact RunOk.same hh rfl (hρ x (by simp))
  case pick c x y =>
    split at h
    · rename_i t ht
      cases h
      have hc := SV.exact_rep (hρ c (by simp)) ht
      refine RunOk.same hh (v := if t then a.eval x else a.eval y) (by simp [hc, asBool]) ?_
      cases t
      · exact hρ y (by simp)
      · exact hρ x (by simp)
    · cases h
  case alloc t => exact ok_alloc hh h
  case box t x => exact ok_box hh (hρ x (by simp)) h
  case build t ps =>
    refine ok_build hh ?_ h
    have := parts_rep (g := g) (H := H) (ρ := ρ) (a := a) ps.toList (fun p hp => hρ p.2 (by simp; exact ⟨p.1, by simpa using hp⟩))
    simpa using this
  case buildSlice t len ps =>
    refine ok_buildSlice hh ?_ h
    have := parts_rep (g := g) (H := H) (ρ := ρ) (a := a) ps.toList (fun p hp => hρ p.2 (by simp; exact ⟨p.1, by simpa using hp⟩))
    simpa using this
  case load t x => exact ok_load hh (hρ x (by simp)) h
  case store t x y => exact ok_store hh (hρ x (by simp)) (hρ y (by simp)) h
  case nilCheck x =>
    split at h
    · rename_i hp
      cases h
      have hx := hρ x (by simp)
      refine RunOk.same hh (v := a.eval x) ?_ hx
      generalize ρ x = s at hp hx
      generalize a.eval x = v at hx
      unfold pLk at hp
      split at hp
      · obtain ⟨b, _, rfl, _⟩ := hx; rfl
      · have hx : Rep g.K (.ptr _ _) v := hx
        cases hx; rfl
      · have hx : Rep g.K (.iface _ _) v := hx
        cases hx; rfl
      · have hx : Rep g.K (.fn _ _) v := hx
        cases hx; rfl
      · cases hp
    · cases h
  case binOp op t x y yt => exact ok_bin hh (hρ x (by simp)) (hρ y (by simp)) h
  case unOp op t x =>
    split at h
    · rename_i v hv
      rw [SV.exact_rep (hρ x (by simp)) hv]; exact ok_sc hh h
    · cases h
  case convert s d x =>
    split at h
    · rename_i v hv
      rw [SV.exact_rep (hρ x (by simp)) hv]; exact ok_convX hh h
    · exact ok_convL hh (hρ x (by simp)) h
  case makeInterface t x => exact ok_iface hh (hρ x (by simp)) h
  case makeFunc fn first caps =>
    have := ok_makeFunc (P := P) hh (list_rep (a := a) first.toList (fun p hp => hρ p (by simp at hp; simp [hp]))) (list_rep (a := a) caps.toList (fun p hp => hρ p (by simp at hp; simp [hp]))) h
    rw [show (first.toList.map a.eval).toArray = first.map a.eval from by apply Array.ext'; simp, show (caps.toList.map a.eval).toArray = caps.map a.eval from by apply Array.ext'; simp] at this
    exact this
  case slice t x lo hi mx =>
    exact ok_slice hh (hρ x (by simp)) (omap_rep lo (fun y hy => hρ y (by simp [hy]))) (omap_rep hi (fun y hy => hρ y (by simp [hy]))) (omap_rep mx (fun y hy => hρ y (by simp [hy]))) h
  case fieldAddr s x f => exact ok_field_addr hh (hρ x (by simp)) h
  case field t x f => exact ok_part hh (hρ x (by simp)) h
  case indexAddr t x i => exact ok_indexAddr hh (hρ x (by simp)) (hρ i (by simp)) h
  case index t x i =>
    split at h
    · rename_i v u hv hu
      rw [SV.exact_rep (hρ x (by simp)) hv, SV.exact_rep (hρ i (by simp)) hu]; exact ok_sc hh h
    · cases h
  case extract x i => exact ok_extract hh (hρ x (by simp)) h
  case makeSlice t l c => exact ok_makeSlice hh (hρ l (by simp)) (hρ c (by simp)) h
/-! builtins and calls -/
def aBu (P : Program) (b : Builtin) (ts : List TypeId) (ty : TypeId) (xs : List SV) (H : Hp) (nx : Nat) : Option (Res × Nat) :=
  match b with
  | .len => match ts, xs with
    | [t], [x] => match aLen P t x with
      | some r => some (r, 0)
      | none => none
    | _, _ => none
  | .append => match ts, xs with
    | [t, t'], [x, y] => if t = t' then match esize P t with
        | some (_, _, bb, _) => if 0 < bb then aAppend P t H nx x y else none
        | none => none
      else none
    | _, _ => none
  | .min => match mapO SV.exact xs with
    | some vs => match sc P (Builtin.min_ ts.toArray ty vs.toArray) with
      | some r => some (r, 0)
      | none => none
    | none => none
  | .max => match mapO SV.exact xs with
    | some vs => match sc P (Builtin.max_ ts.toArray ty vs.toArray) with
      | some r => some (r, 0)
      | none => none
    | none => none
  | .copy => match ts, xs with
    | [t, _], [x, y] => match aCy P t x y with
      | some r => some (r, 0)
      | none => none
    | _, _ => none
  | _ => none
theorem exacts_rep {g : G} {H : Hp} {xs : List SV} {vs us : List Value} (h : RepSs g H xs vs) (hu : mapO SV.exact xs = some us) : vs = us := by
  obtain ⟨h1, h2⟩ := mapO_get hu
  have hl : vs.length = us.length := by have := h.1; omega
  apply List.ext_getElem hl
  intro j hj hj'
  obtain ⟨x, hx, hxe⟩ := h2 j us[j] (List.getElem?_eq_getElem hj')
  exact SV.exact_rep (h.2 j x vs[j] hx (List.getElem?_eq_getElem hj)) hxe
theorem ok_builtin {P : Program} {W0 : Fr} {K0 : Know} {g : G} {H : Hp} {w : World} {r : Res} {b : Builtin} {ts : List TypeId} {ty : TypeId} {cs : Array Bool} {nx tot : Nat} {xs : List SV} {vs : List Value} (hh : RelH W0 K0 g H w) (hx : RepSs g H xs vs)
    (h : aBu P b ts ty xs H nx = some (r, tot)) (ht : tot ≤ 140737488355328) : RunOk P W0 K0 (builtin b ts.toArray ty cs vs.toArray) g H w r := by
  unfold aBu at h
  split at h
  · split at h
    · rename_i t x
      split at h
      · rename_i r' hr
        cases h
        obtain ⟨v, rfl⟩ : ∃ v, vs = [v] := by
          have := hx.1
          match vs, this with
          | [v], _ => exact ⟨v, rfl⟩
        exact ok_len hh (hx.2 0 x v rfl rfl) hr
      · cases h
    · cases h
  · split at h
    · rename_i t t' x y
      split at h
      · rename_i e
        subst e
        split at h
        · rename_i e0 s0 bb zs hes
          split at h
          · rename_i hbb
            obtain ⟨v, u, rfl⟩ : ∃ v u, vs = [v, u] := by
              have := hx.1
              match vs, this with
              | [v, u], _ => exact ⟨v, u, rfl⟩
            exact ok_append hh (hx.2 0 x v rfl rfl) (hx.2 1 y u rfl rfl) h ht (fun e' s' b' z' h' => by rw [hes] at h'; cases h'; exact hbb)
          · cases h
        · cases h
      · cases h
    · cases h
  · split at h
    · rename_i us hus
      split at h
      · rename_i r' hr
        cases h
        rw [exacts_rep hx hus]
        exact ok_sc hh hr
      · cases h
    · cases h
  · split at h
    · rename_i us hus
      split at h
      · rename_i r' hr
        cases h
        rw [exacts_rep hx hus]
        exact ok_sc hh hr
      · cases h
    · cases h
  · split at h
    · rename_i t t' x y
      split at h
      · rename_i r' hr
        cases h
        obtain ⟨v, u, rfl⟩ : ∃ v u, vs = [v, u] := by
          have := hx.1
          match vs, this with
          | [v, u], _ => exact ⟨v, u, rfl⟩
        exact ok_copy hh (hx.2 0 x v rfl rfl) (hx.2 1 y u rfl rfl) hr
      · cases h
    · cases h
  · cases h
/-- One operation, with what is done behind it. -/
def astep (P : Program) (o : Oper) (ρ : Operand → SV) (H : Hp) (nx : Nat) (k : Res → Prop) : Prop :=
  match o.op with
  | .call c => match c.callee with
    | .builtin b => match aBu P b c.argTypes.toList o.type (c.args.toList.map ρ) H nx with
      | some (r, tot) => tot ≤ 140737488355328 ∧ k r
      | none => False
    | .value f => match ρ f with
      | .c (.d (.fn (.func f) caps)) => match mapO (SV.toD H) (c.args.toList.map ρ) with
        | some ds => (∃ y, Fun P f (ds ++ caps) y ∧ k ⟨SV.ofD y, none, (c.args.toList.map ρ).flatMap oWn, false⟩) ∨
            (∃ e sz xs, FunA P f (ds ++ caps) e sz xs ∧ H nx = none ∧ k ⟨.c (.app nx sz xs), some (nx, .row e sz xs.length), nx :: (c.args.toList.map ρ).flatMap oWn, true⟩)
        | none => False
      | _ => False
    | _ => False
  | op => match aop P op ρ H nx with
    | some r => k r
    | none => False
def AStep (P : Program) (o : Oper) (ρ : Operand → SV) (H : Hp) (nx : Nat) (r : Res) : Prop := astep P o ρ H nx (fun r' => r' = r)
theorem astep_get {P : Program} {o : Oper} {ρ : Operand → SV} {H : Hp} {nx : Nat} {k : Res → Prop} (h : astep P o ρ H nx k) : ∃ r, AStep P o ρ H nx r ∧ k r := by
  unfold AStep
  unfold astep at *
  split at h
  · split at h
    · split at h
      · rename_i r tot hr
        exact ⟨r, ⟨h.1, rfl⟩, h.2⟩
      · exact h.elim
    · split at h
      · split at h
        · rcases h with ⟨y, h1, h2⟩ | ⟨e, sz, xs, h1, h2, h3⟩
          · exact ⟨_, .inl ⟨y, h1, rfl⟩, h2⟩
          · exact ⟨_, .inr ⟨e, sz, xs, h1, h2, rfl⟩, h3⟩
        · exact h.elim
      · exact h.elim
    · exact h.elim
  · split at h
    · rename_i r hr
      exact ⟨r, rfl, h⟩
    · exact h.elim
theorem astep_put {P : Program} {o : Oper} {ρ : Operand → SV} {H : Hp} {nx : Nat} {k : Res → Prop} {r : Res} (h : AStep P o ρ H nx r) (hk : k r) : astep P o ρ H nx k := by
  unfold AStep at h
  unfold astep at *
  split at h
  · split at h
    · split at h
      · obtain ⟨h1, rfl⟩ := h; exact ⟨h1, hk⟩
      · exact h.elim
    · split at h
      · split at h
        · rcases h with ⟨y, h1, rfl⟩ | ⟨e, sz, xs, h1, h2, rfl⟩
          · exact .inl ⟨y, h1, hk⟩
          · exact .inr ⟨e, sz, xs, h1, h2, hk⟩
        · exact h.elim
      · exact h.elim
    · exact h.elim
  · split at h
    · subst h; exact hk
    · exact h.elim
def StepPost (W0 : Fr) (K0 : Know) (o : Oper) (a : Act) (g : G) (H : Hp) (r : Res) (a' : Act) (w' : World) : Prop :=
  ∃ v g', a' = a.put o.dst v ∧ RepS g' (hup H r.up) r.v v ∧ RelH W0 K0 g' (hup H r.up) w' ∧ GLe g H g' (hup H r.up)
/-- No fence but the round that the frame is of. -/
abbrev fen (ro : Option Nat) : Fence := { Fence.wide with round := ro }
theorem callsIn_fen {ro : Option Nat} {n : Nat} {P : Program} {f : FuncId} {args : Array Value} {w : World} {R : Ending → World → Prop} (h : Calls P f args w R) : CallsIn (fen ro) n P f args w R := by
  have h0 : CallsIn Fence.wide n P f args w R := callsIn_wide.2 h
  exact h0
theorem fen_depth {ro : Option Nat} {n : Nat} : (fen ro).depth.isSome = true → 1 ≤ n := fun h => by simp [fen, Fence.wide] at h
theorem RunOk.wp {P : Program} {W0 : Fr} {K0 : Know} {o : Oper} {a : Act} {g : G} {H : Hp} {w : World} {r : Res} {ro : Option Nat} (hnd : ∀ c, o.op ≠ .defer c) (h : RunOk P W0 K0 (execOp a.eval o) g H w r) (Q : Exit → Act → World → Prop) : o.wpIn (fen ro) 0 P a w (StepPost W0 K0 o a g H r) Q := by
  obtain ⟨n, v, w', g', hr, hn, h1, h2, h3⟩ := h
  refine ⟨fun _ _ => trivial, ?_⟩
  rw [Oper.semAt_eq _ _ _ hnd, hr]
  rcases hn with rfl | ⟨rfl, rfl⟩
  · exact ⟨v, g', rfl, h1, h2, h3⟩
  · exact ⟨undef, g', rfl, h1, h2, h3⟩
theorem step_sound {P : Program} {W0 : Fr} {K0 : Know} {o : Oper} {ρ : Operand → SV} {H : Hp} {nx : Nat} {r : Res} {g : G} {a : Act} {w : World} (hh : RelH W0 K0 g H w) (hρ : ∀ x ∈ o.op.operands, RepS g H (ρ x) (a.eval x)) (h : AStep P o ρ H nx r) (ro : Option Nat) (Q : Exit → Act → World → Prop) :
    o.wpIn (fen ro) 0 P a w (StepPost W0 K0 o a g H r) Q := by
  have hnd : ∀ c, o.op ≠ .defer c := by
    intro c hc
    unfold AStep astep at h
    rw [hc] at h
    simp [aop] at h
  unfold AStep astep at h
  split at h
  · rename_i c hop
    rw [hop] at hρ
    simp only [Op.operands, Call.operands] at hρ
    have hargs : RepSs g H (c.args.toList.map ρ) (c.args.toList.map a.eval) := list_rep c.args.toList (fun p hp => hρ p (by simp at hp; simp [hp]))
    have hmap : c.args.map a.eval = (c.args.toList.map a.eval).toArray := by apply Array.ext'; simp
    split at h
    · rename_i b hb
      split at h
      · rename_i r' tot hr
        obtain ⟨ht, rfl⟩ := h
        apply RunOk.wp hnd
        have := fun cs => ok_builtin (P := P) (cs := cs) hh hargs hr ht
        simp only [Array.toArray_toList] at this
        unfold execOp
        rw [hop]
        simp only [resolve, hb, hmap]
        exact this _
      · exact h.elim
    · rename_i f hf
      split at h
      · rename_i fid caps hρf
        split at h
        · rename_i ds hds
          have hfv := hρ f (by simp [hf])
          rw [hρf] at hfv
          have hfv : Rep g.K (.fn (.func fid) caps) (a.eval f) := hfv
          generalize hav : a.eval f = fv at hfv
          cases hfv with
          | fn hl hv =>
            rename_i cvs
            obtain ⟨h1, h2⟩ := mapO_get hds
            have hL : RepL g.K (ds ++ caps) (c.args.toList.map a.eval ++ cvs) := by
              refine RepL.append ⟨by rw [h1, hargs.1], fun j x v hx hv' => ?_⟩ ⟨hl, hv⟩
              obtain ⟨s, hs, hsx⟩ := h2 j x hx
              exact SV.toD_rep hh (hargs.2 j s v hs hv') hsx
            have hrun : bodyOk P fid = true → (execOp a.eval o).run P w = .ok (.enter fid (c.args.toList.map a.eval ++ cvs).toArray) w := fun hbody => by
              unfold execOp
              rw [hop]
              unfold bodyOk at hbody
              split at hbody
              · rename_i fn hfn
                simp only [Bool.and_eq_true, Bool.not_eq_true'] at hbody
                simp only [resolve, hf, hmap, hav, Deferred.ofValue]
                have hb1 : ¬ fn.body = none := by intro e; rw [e] at hbody; simp at hbody
                have hb2 : ¬ fn.name = "runtime.NumGoroutine" := by simpa using hbody.1
                simp [invoke, callFunc, hfn, hb1, hb2]
              · cases hbody
            have hBg : KLe BaseK g.K := hh.glob.trans hh.ext.1
            rcases h with ⟨y, hfun, rfl⟩ | ⟨e, sz, xs, hfun, hnx, rfl⟩
            · obtain ⟨hbody, hcalls⟩ := hfun
              have hc := hcalls g.K w _ hBg hh.kw hL
              refine ⟨fun _ _ => trivial, ?_⟩
              rw [Oper.semAt_eq _ _ _ hnd, hrun hbody]
              simp only [Oper.uponIn]
              refine ⟨fen_depth, callsIn_fen (hc.mono ?_)⟩
              rintro e w' ⟨v, K', rfl, he, hk, hr, hb⟩
              exact ⟨v, { g with K := K' }, rfl, ofD_rep hr _ _ rfl, hh.grow hb he hk, GLe.ofK he.1⟩
            · obtain ⟨hbody, hcalls⟩ := hfun
              have hc := hcalls g.K w _ hBg hh.kw hL
              refine ⟨fun _ _ => trivial, ?_⟩
              rw [Oper.semAt_eq _ _ _ hnd, hrun hbody]
              simp only [Oper.uponIn]
              refine ⟨fen_depth, callsIn_fen (hc.mono ?_)⟩
              rintro en w' ⟨v, K', rfl, he, hk, hr, hap, hb⟩
              obtain ⟨g', hrel, hle, hrc⟩ := RelH.gotrow (hh.grow hb he hk) hnx hr hap (fun _ _ => trivial) (fun i b hi => hh.frozlt i b hi) hh.below.size
              exact ⟨v, g', rfl, hrc, hrel, (GLe.ofK he.1).trans hle⟩
        · exact h.elim
      · exact h.elim
    · exact h.elim
  · split at h
    · rename_i r' hr
      subst h
      exact (aop_sound hh hρ hr).wp hnd Q
    · exact h.elim
end Go.Proofs.YtepcpdionlfkhaaGreatDoor
namespace Go.Proofs.YtepcpdionlfkhaaGreatDoor
open Go Go.RowKit
set_option linter.unusedVariables false
set_option linter.unusedSimpArgs false
theorem aop_congr {P : Program} {op : Op} {ρ ρ' : Operand → SV} {H : Hp} {nx : Nat} (h : ∀ x ∈ op.operands, ρ x = ρ' x) : aop P op ρ H nx = aop P op ρ' H nx := by
  have pairs : ∀ ps : List (Nat × Operand), (∀ p ∈ ps, ρ p.2 = ρ' p.2) → (ps.map fun p => (p.1, ρ p.2)) = (ps.map fun p => (p.1, ρ' p.2)) := fun ps hp =>
    List.map_congr_left fun p hm => by rw [hp p hm]
  cases op <;> simp only [Op.operands] at h <;> simp only [aop]
  case build t ps => rw [pairs ps.toList fun p hp => h p.2 (by simp; exact ⟨p.1, by simpa using hp⟩)]
  case buildSlice t n ps => rw [pairs ps.toList fun p hp => h p.2 (by simp; exact ⟨p.1, by simpa using hp⟩)]
  case makeFunc fn first caps =>
    rw [List.map_congr_left (l := first.toList) fun x hx => h x (by simp at hx; simp [hx]), List.map_congr_left (l := caps.toList) fun x hx => h x (by simp at hx; simp [hx])]
  case slice t x lo hi mx => cases lo <;> cases hi <;> cases mx <;> simp_all
  all_goals (first | rfl | (simp_all; done))
theorem capD_local {H H' : Hp} {x : SV} (h : ∀ id ∈ oWn x, H' id = H id) : capD H' x = capD H x := by
  cases x with
  | agg cs => rfl
  | c x => cases x with
    | own id off => simp only [capD, CV.toD, h id (by simp [oWn])]
    | _ => rfl
theorem toD_local {H H' : Hp} {x : SV} (h : ∀ id ∈ oWn x, H' id = H id) : SV.toD H' x = SV.toD H x := by
  cases x with
  | agg cs => rfl
  | c x => cases x with
    | own id off => simp only [SV.toD, CV.toD, h id (by simp [oWn])]
    | _ => rfl
theorem mapO_congr {α β : Type} {f f' : α → Option β} : ∀ {xs : List α}, (∀ x ∈ xs, f x = f' x) → mapO f xs = mapO f' xs
  | [], _ => rfl
  | x :: xs, h => by simp only [mapO]; rw [h x (by simp), mapO_congr (fun y hy => h y (by simp [hy]))]
theorem aAlloc_local {P : Program} {H H' : Hp} {nx : Nat} {t : TypeId} {r : Res} (h : aAlloc P H nx t = some r) (hf : ∀ id ∈ r.fp, H' id = H id) : aAlloc P H' nx t = some r := by
  have hfp : r.fp = [nx] := by
    unfold aAlloc at h
    split at h
    · split at h
      · split at h
        · cases h; rfl
        · cases h
      · cases h
    · cases h
  unfold aAlloc at *
  rw [hf nx (by simp [hfp])]; exact h
theorem aMakeSlice_local {P : Program} {H H' : Hp} {nx : Nat} {t : TypeId} {x y : SV} {r : Res} (h : aMakeSlice P H nx t x y = some r) (hf : ∀ id ∈ r.fp, H' id = H id) : aMakeSlice P H' nx t x y = some r := by
  have hfp : r.fp = [nx] := by
    unfold aMakeSlice at h
    split at h
    · split at h
      · cases h
      · split at h
        · split at h
          · split at h
            · cases h; rfl
            · split at h
              · cases h; rfl
              · cases h
          · cases h
        · cases h
    · cases h
  unfold aMakeSlice at *
  rw [hf nx (by simp [hfp])]; exact h
theorem aBox_local {H H' : Hp} {nx : Nat} {x : SV} {r : Res} (h : aBox H nx x = some r) (hf : ∀ id ∈ r.fp, H' id = H id) : aBox H' nx x = some r := by
  have hfp : r.fp = [nx] := by
    unfold aBox at h
    split at h
    · split at h
      · cases h; rfl
      · cases h
    · cases h
  unfold aBox at *
  rw [hf nx (by simp [hfp])]; exact h
theorem aLoad_local {P : Program} {H H' : Hp} {t : TypeId} {x : SV} {r : Res} (h : aLd P t H x = some r) (hf : ∀ id ∈ r.fp, H' id = H id) : aLd P t H' x = some r := by
  cases x with
  | agg cs => simp [aLd] at h
  | c x => cases x with
    | own id off =>
      have hfp : r.fp = [id] := by
        simp only [aLd] at h
        split at h
        · split at h
          · cases h; rfl
          · cases h
        · split at h
          · cases h; rfl
          · cases h
        · cases h
      simp only [aLd] at *
      rw [hf id (by simp [hfp])]; exact h
    | d x => cases x <;> first | exact h | (simp [aLd] at h)
    | _ => simp [aLd] at h
theorem aStore_local {P : Program} {H H' : Hp} {t : TypeId} {x y : SV} {r : Res} (h : aSt P t H x y = some r) (hf : ∀ id ∈ r.fp, H' id = H id) : aSt P t H' x y = some r := by
  cases x with
  | agg cs => simp [aSt] at h
  | c x => cases x with
    | own id off =>
      have hfp : r.fp = [id] := by
        simp only [aSt] at h
        split at h
        · split at h
          · split at h
            · cases h; rfl
            · cases h
          · cases h
        · cases h
      simp only [aSt] at *
      rw [hf id (by simp [hfp])]; exact h
    | _ => simp [aSt] at h
theorem aIface_local {P : Program} {H H' : Hp} {t : TypeId} {x : SV} {r : Res} (h : aIf P t H x = some r) (hf : ∀ id ∈ r.fp, H' id = H id) : aIf P t H' x = some r := by
  cases x with
  | agg cs => exact h
  | c x => cases x with
    | own id off =>
      have hfp : r.fp = [id] := by
        simp only [aIf] at h
        split at h
        · split at h
          · cases h
          · split at h
            · cases h; rfl
            · split at h
              · cases h; rfl
              · cases h
            · cases h
        · cases h
      simp only [aIf] at *
      rw [hf id (by simp [hfp])]; exact h
    | _ => exact h
theorem aMakeFunc_local {H H' : Hp} {fn : Fn} {first caps : List SV} {r : Res} (h : aMF H fn first caps = some r) (hf : ∀ id ∈ r.fp, H' id = H id) : aMF H' fn first caps = some r := by
  have hfp : r.fp = caps.flatMap oWn := by
    unfold aMF at h
    split at h
    · cases h; rfl
    · split at h
      · cases h; rfl
      · cases h; rfl
      · cases h
  have : mapO (capD H') caps = mapO (capD H) caps := mapO_congr (fun x hx => capD_local (fun id hid => hf id (by rw [hfp]; exact List.mem_flatMap.2 ⟨x, hx, hid⟩)))
  unfold aMF at *
  rw [this]; exact h
theorem aop_local {P : Program} {op : Op} {ρ : Operand → SV} {H H' : Hp} {nx : Nat} {r : Res} (h : aop P op ρ H nx = some r) (hf : ∀ id ∈ r.fp, H' id = H id) : aop P op ρ H' nx = some r := by
  cases op <;> simp only [aop] at h ⊢ <;> (try exact h)
  case alloc t => exact aAlloc_local h hf
  case box t x => exact aBox_local h hf
  case makeSlice t x y => exact aMakeSlice_local h hf
  case load t x => exact aLoad_local h hf
  case store t x y => exact aStore_local h hf
  case makeInterface t x => exact aIface_local h hf
  case makeFunc fn first caps => exact aMakeFunc_local h hf
theorem aAppend_local {P : Program} {t : TypeId} {H H' : Hp} {nx tot : Nat} {x y : SV} {r : Res} (h : aAppend P t H nx x y = some (r, tot)) (hf : ∀ id ∈ r.fp, H' id = H id) : aAppend P t H' nx x y = some (r, tot) := by
  unfold aAppend at h ⊢
  cases hes : esize P t with
  | none => rw [hes] at h; cases h
  | some q =>
    obtain ⟨e, sz, bb, zs⟩ := q
    rw [hes] at h
    simp only at h ⊢
    split at h
    · rename_i hc
      rw [if_pos hc]
      cases x with
      | agg cs => cases h
      | c cx => cases y with
        | agg cs => cases h
        | c cy =>
          simp only at h ⊢
          cases hxs : cx.lstOf sz with
          | none => rw [hxs] at h; cases h
          | some xs => cases hys : cy.lstOf sz with
            | none => rw [hxs, hys] at h; cases h
            | some ys =>
              rw [hxs, hys] at h
              simp only at h ⊢
              cases cx with
              | app τ s' xs' =>
                have hfp : r.fp = [τ] := by
                  simp only at h
                  split at h
                  · split at h
                    · cases h; rfl
                    · cases h
                  · cases h
                simp only at h ⊢
                rw [hf τ (by simp [hfp])]; exact h
              | d x => cases x with
                | lst s xs => cases h
                | val v =>
                  split at h
                  · rename_i heq; cases heq
                  · rename_i heq; cases heq
                  · rename_i heq
                    cases heq
                    have hfp : r.fp = [nx] := by
                      split at h
                      · cases h; rfl
                      · cases h
                    rw [hf nx (by simp [hfp])]; exact h
                  · cases h
                | _ => simp [CV.lstOf] at hxs
              | full s' xs' =>
                have hfp : r.fp = [nx] := by
                  simp only at h
                  split at h
                  · cases h; rfl
                  · cases h
                simp only at h ⊢
                rw [hf nx (by simp [hfp])]; exact h
              | _ => simp [CV.lstOf] at hxs
    · cases h
theorem abuiltin_local {P : Program} {b : Builtin} {ts : List TypeId} {ty : TypeId} {xs : List SV} {H H' : Hp} {nx tot : Nat} {r : Res} (h : aBu P b ts ty xs H nx = some (r, tot)) (hf : ∀ id ∈ r.fp, H' id = H id) : aBu P b ts ty xs H' nx = some (r, tot) := by
  cases b <;> (try exact h)
  simp only [aBu] at h ⊢
  match ts, xs, h with
  | [t, t'], [x, y], h =>
    simp only at h ⊢
    split at h
    · rename_i e
      rw [if_pos e]
      cases hes : esize P t with
      | none => rw [hes] at h; cases h
      | some q =>
        obtain ⟨e, sz, bb, zs⟩ := q
        rw [hes] at h
        simp only at h ⊢
        split at h
        · rename_i hbb; rw [if_pos hbb]; exact aAppend_local h hf
        · cases h
    · cases h
theorem AStep.local {P : Program} {o : Oper} {ρ ρ' : Operand → SV} {H H' : Hp} {nx : Nat} {r : Res} (h : AStep P o ρ H nx r) (hρ : ∀ x ∈ o.op.operands, ρ x = ρ' x) (hf : ∀ id ∈ r.fp, H' id = H id) : AStep P o ρ' H' nx r := by
  obtain ⟨dst, op, type, pos, after, guard⟩ := o
  unfold AStep astep at h ⊢
  cases op with
  | call c =>
    simp only [Op.operands, Call.operands] at hρ
    have hargs : c.args.toList.map ρ = c.args.toList.map ρ' := List.map_congr_left fun x hx => hρ x (by simp at hx; simp [hx])
    simp only at h ⊢
    obtain ⟨cal, args, tys⟩ := c
    cases cal with
    | builtin b =>
      simp only at h ⊢ hargs
      rw [← hargs]
      cases hr : aBu P b tys.toList type (args.toList.map ρ) H nx with
      | none => rw [hr] at h; exact h.elim
      | some q =>
        obtain ⟨r', tot⟩ := q
        rw [hr] at h
        obtain ⟨ht, rfl⟩ := h
        rw [abuiltin_local hr hf]
        exact ⟨ht, rfl⟩
    | value f =>
      simp only at h ⊢ hargs
      rw [← hargs, ← hρ f (by simp)]
      split at h
      · rename_i fid caps hρf
        split at h
        · rename_i ds hds
          rcases h with ⟨y, hfun, rfl⟩ | ⟨e, sz, xs, hfun, hnx, rfl⟩
          · have : mapO (SV.toD H') (args.toList.map ρ) = some ds := by
              rw [← hds]
              exact mapO_congr (fun x hx => toD_local (fun id hid => hf id (List.mem_flatMap.2 ⟨x, hx, hid⟩)))
            rw [this]
            exact .inl ⟨y, hfun, rfl⟩
          · have : mapO (SV.toD H') (args.toList.map ρ) = some ds := by
              rw [← hds]
              exact mapO_congr (fun x hx => toD_local (fun id hid => hf id (List.mem_cons_of_mem _ (List.mem_flatMap.2 ⟨x, hx, hid⟩))))
            rw [this]
            exact .inr ⟨e, sz, xs, hfun, (hf nx (by simp)).trans hnx, rfl⟩
        · exact h.elim
      · exact h.elim
    | invoke _ _ => exact h.elim
  | _ =>
    simp only at h ⊢
    split at h
    · rename_i r' hr
      subst h
      have := aop_local ((aop_congr (P := P) (nx := nx) (H := H) hρ).symm.trans hr) hf
      rw [this]
    · exact h.elim
end Go.Proofs.YtepcpdionlfkhaaGreatDoor
namespace Go.Proofs.YtepcpdionlfkhaaGreatDoor
open Go Go.RowKit
set_option linter.unusedVariables false
set_option linter.unusedSimpArgs false
theorem DefsRel.mono {g g' : G} {H H' : Hp} (hle : GLe g H g' H') (ho : ∀ id o, H id = some (.obj o) → H' id = some (.obj o)) : ∀ {l : List Nat} {ds : List Deferred}, DefsRel g H l ds → DefsRel g' H' l ds
  | [], [], h => h
  | id :: ids, d :: ds, ⟨⟨b, hb, hd⟩, hH, h⟩ => by
    obtain ⟨b', hb', he, _⟩ := hle (.own id 0) (.pointer (some ⟨b, 0, none⟩)) ⟨b, hb, rfl, by rw [hH]; rfl⟩
    simp only [Value.pointer.injEq, Option.some.injEq, Addr.mk.injEq, and_true] at he
    exact ⟨⟨b', hb', by rw [hd, he]⟩, ho _ _ hH, DefsRel.mono hle ho h⟩
theorem sc_up {P : Program} {s : Sem Value} {r : Res} (h : sc P s = some r) : r.up = none := by
  unfold sc at h
  (repeat' split at h) <;> first | (cases h; rfl) | cases h
theorem aLoad_up {P : Program} {t : TypeId} {H : Hp} {x : SV} {r : Res} (h : aLd P t H x = some r) : r.up = none := by
  unfold aLd at h
  (repeat' split at h) <;> first | (cases h; rfl) | cases h
theorem aField_up {P : Program} {s : TypeId} {f : Nat} {x : SV} {r : Res} (h : aFd P s f x = some r) : r.up = none := by
  unfold aFd at h
  (repeat' split at h) <;> first | (cases h; rfl) | cases h
theorem aPart_up {P : Program} {s : TypeId} {f : Nat} {x : SV} {r : Res} (h : aPt P s f x = some r) : r.up = none := by
  unfold aPt at h
  (repeat' split at h) <;> first | (cases h; rfl) | cases h
theorem aIndexAddr_up {P : Program} {t : TypeId} {x i : SV} {r : Res} (h : aIndexAddr P t x i = some r) : r.up = none := by
  unfold aIndexAddr at h
  (repeat' split at h) <;> first | (cases h; rfl) | cases h
theorem aLen_up {P : Program} {t : TypeId} {x : SV} {r : Res} (h : aLen P t x = some r) : r.up = none := by
  unfold aLen at h
  (repeat' split at h) <;> first | (cases h; rfl) | cases h
theorem aSlice_up {P : Program} {t : TypeId} {x : SV} {lo hi mx : Option SV} {r : Res} (h : aSl P t x lo hi mx = some r) : r.up = none := by
  unfold aSl at h
  (repeat' split at h) <;> first | (cases h; rfl) | cases h
theorem aBuild_up {P : Program} {t : TypeId} {ps : List (Nat × SV)} {r : Res} (h : aBuild P t ps = some r) : r.up = none := by
  unfold aBuild at h
  (repeat' split at h) <;> first | (cases h; rfl) | cases h
theorem aBuildSlice_up {P : Program} {t : TypeId} {n : Nat} {ps : List (Nat × SV)} {r : Res} (h : aBuildSlice P t n ps = some r) : r.up = none := by
  unfold aBuildSlice at h
  (repeat' split at h) <;> first | (cases h; rfl) | cases h
theorem aMakeFunc_up {H : Hp} {fn : Fn} {first caps : List SV} {r : Res} (h : aMF H fn first caps = some r) : r.up = none := by
  unfold aMF at h
  (repeat' split at h) <;> first | (cases h; rfl) | cases h
theorem aExtract_up {x : SV} {i : Nat} {r : Res} (h : aXt x i = some r) : r.up = none := by
  unfold aXt at h
  (repeat' split at h) <;> first | (cases h; rfl) | cases h
theorem aBin_up {P : Program} {op : BinOp} {t : TypeId} {x y : Operand} {sx sy : SV} {r : Res} (h : aBin P op t x y sx sy = some r) : r.up = none := by
  unfold aBin at h
  split at h
  · exact sc_up h
  · (repeat' split at h) <;> first | (cases h; rfl) | cases h
theorem abuiltin_up {P : Program} {b : Builtin} {ts : List TypeId} {ty : TypeId} {xs : List SV} {H : Hp} {nx tot : Nat} {r : Res} (h : aBu P b ts ty xs H nx = some (r, tot)) {k : Nat} {he : HE} (hu : r.up = some (k, he)) {o : Obj} (ho : H k = some (.obj o)) : False := by
  unfold aBu at h
  split at h
  · split at h
    · split at h
      · rename_i r' hr
        cases h
        rw [aLen_up hr] at hu; cases hu
      · cases h
    · cases h
  · split at h
    · split at h
      · split at h
        · split at h
          · unfold aAppend at h
            (repeat' split at h) <;> first | (cases h; done) | (cases h; cases hu; simp_all)
          · cases h
        · cases h
      · cases h
    · cases h
  · split at h
    · split at h
      · rename_i r' hr
        cases h
        rw [sc_up hr] at hu; cases hu
      · cases h
    · cases h
  · split at h
    · split at h
      · rename_i r' hr
        cases h
        rw [sc_up hr] at hu; cases hu
      · cases h
    · cases h
  · split at h
    · split at h
      · rename_i r' hr
        cases h
        rw [aCopy_up hr] at hu; cases hu
      · cases h
    · cases h
  · cases h
theorem aop_up {P : Program} {op : Op} {ρ : Operand → SV} {H : Hp} {nx : Nat} {r : Res} (h : aop P op ρ H nx = some r) {k : Nat} {he : HE} (hu : r.up = some (k, he)) {o : Obj} (ho : H k = some (.obj o)) : False := by
  cases op <;> simp only [aop] at h
  case alloc t =>
    unfold aAlloc at h
    split at h
    · rename_i hn
      split at h
      · split at h
        · cases h; cases hu; rw [hn] at ho; cases ho
        · cases h
      · cases h
    · cases h
  case makeSlice t x y =>
    unfold aMakeSlice at h
    split at h
    · split at h
      · cases h
      · rename_i hn
        split at h
        · split at h
          · split at h
            · cases h; cases hu; rw [hn] at ho; cases ho
            · split at h
              · cases h; cases hu; rw [hn] at ho; cases ho
              · cases h
          · cases h
        · cases h
    · cases h
  case box t x =>
    unfold aBox at h
    split at h
    · rename_i hn
      split at h
      · cases h; cases hu; rw [hn] at ho; cases ho
      · cases h
    · cases h
  case store t a x =>
    unfold aSt at h
    split at h
    · split at h
      · rename_i hc
        split at h
        · split at h
          · cases h; cases hu; rw [hc] at ho; cases ho
          · cases h
        · cases h
      · cases h
    · cases h
  case makeInterface t x =>
    unfold aIf at h
    split at h
    · split at h
      · cases h
      · split at h
        · split at h
          · cases h; cases hu
          · rename_i hc
            split at h
            · cases h; cases hu; rw [hc] at ho; cases ho
            · cases h
          · cases h
        · split at h
          · cases h; cases hu
          · cases h
        · split at h
          · cases h; cases hu
          · cases h
    · cases h
  case convert s d x =>
    split at h
    · rw [aConvX_up h] at hu; cases hu
    · rw [aConvL_up h] at hu; cases hu
  case build t ps => rw [aBuild_up h] at hu; cases hu
  case buildSlice t n ps => rw [aBuildSlice_up h] at hu; cases hu
  case load t a => rw [aLoad_up h] at hu; cases hu
  case binOp op t x y z => rw [aBin_up h] at hu; cases hu
  case makeFunc fn first caps => rw [aMakeFunc_up h] at hu; cases hu
  case slice t x lo hi mx => rw [aSlice_up h] at hu; cases hu
  case fieldAddr s x f => rw [aField_up h] at hu; cases hu
  case field s x f => rw [aPart_up h] at hu; cases hu
  case indexAddr t x i => rw [aIndexAddr_up h] at hu; cases hu
  case extract x i => rw [aExtract_up h] at hu; cases hu
  all_goals first
    | (cases h; done)
    | (cases h; cases hu; done)
    | (split at h <;> first | (cases h; done) | (cases h; cases hu; done) | (rw [sc_up h] at hu; cases hu))
theorem up_obj {P : Program} {o : Oper} {ρ : Operand → SV} {H : Hp} {nx : Nat} {r : Res} (h : AStep P o ρ H nx r) (id : Nat) (ob : Obj) (ho : H id = some (.obj ob)) : hup H r.up id = some (.obj ob) := by
  have key : ∀ k he, r.up = some (k, he) → k ≠ id := by
    rintro k he hu rfl
    unfold AStep astep at h
    split at h
    · split at h
      · split at h
        · rename_i b hb r' tot hr
          obtain ⟨_, rfl⟩ := h
          exact abuiltin_up hr hu ho
        · exact h.elim
      · split at h
        · split at h
          · rcases h with ⟨y, _, rfl⟩ | ⟨e, sz, xs, _, hn, rfl⟩
            · cases hu
            · cases hu; rw [hn] at ho; cases ho
          · exact h.elim
        · exact h.elim
      · exact h.elim
    · split at h
      · rename_i r' hr
        subst h
        exact aop_up hr hu ho
      · exact h.elim
  cases hu : r.up with
  | none => exact ho
  | some q =>
    obtain ⟨k, he⟩ := q
    show upd H k (some he) id = _
    rw [upd_ne _ _ (Ne.symm (key k he hu))]; exact ho
def dstOk (σ : St) (o : Oper) : Prop := match o.dst with
  | some d => d < σ.sz
  | none => True
def putE (env : Nat → SV) (d : Option Nat) (x : SV) : Nat → SV := match d with
  | some d => upd env d x
  | none => env
def St.put (σ : St) (dst : Option Nat) (v : SV) : St := { σ with env := putE σ.env dst v }
def St.step (σ : St) (o : Oper) (r : Res) : St := { env := (σ.put o.dst r.v).env, H := hup σ.H r.up, nx := if r.al then σ.nx + 1 else σ.nx, sz := σ.sz, fx := σ.fx }
def St.skip (σ : St) (o : Oper) : St := σ.put o.dst (.c (.d (.val undef)))
structure Foot where
  fp : List Nat
  wr : Option Nat
def guardB (all : List Oper) (env : Nat → SV) (o : Oper) : Option Bool :=
  match o.guard with
  | none => some true
  | some (j, want) => match all[j]? with
    | some oj => match oj.dst with
      | some d => match (env d).exact with
        | some (.bool b) => some (b == want)
        | some _ => some false
        | none => none
      | none => none
    | none => none
def aops (P : Program) (all : List Oper) : List Oper → St → List Foot → (St → List Foot → Prop) → Prop
  | [], σ, tr, k => k σ tr.reverse
  | o :: os, σ, tr, k => match guardB all σ.env o with
    | none => False
    | some t => (t = true → astep P o (evalS σ.env) σ.H σ.nx (fun r => dstOk σ o ∧ aops P all os (σ.step o r) (⟨r.fp, r.up.map (·.1)⟩ :: tr) k)) ∧
        (t = false → dstOk σ o ∧ aops P all os (σ.skip o) (⟨[], none⟩ :: tr) k)
theorem put_getD (a : Act) (d : Option Nat) (v : Value) (t : Nat) : (a.put d v).tmps.getD t undef = if d = some t ∧ t < a.tmps.size then v else a.tmps.getD t undef := by
  cases d with
  | none => simp [Act.put]
  | some d =>
    simp only [Act.put, Array.getD_eq_getD_getElem?, Array.getElem?_setIfInBounds, Option.some.injEq]
    by_cases h : d = t
    · subst h
      by_cases h2 : d < a.tmps.size
      · simp [h2]
      · simp [h2]
    · simp [h]
theorem put_size (a : Act) (d : Option Nat) (v : Value) : (a.put d v).tmps.size = a.tmps.size := by cases d <;> simp [Act.put]
theorem put_def (a : Act) (d : Option Nat) (v : Value) : (a.put d v).defers = a.defers := by cases d <;> rfl
/-- What a frame holds behind a put. -/
theorem env_put {g : G} {H : Hp} {env : Nat → SV} {a : Act} {d : Option Nat} {x : SV} {v : Value} {n : Nat} (h : ∀ t, RepS g H (env t) (a.tmps.getD t undef)) (hx : RepS g H x v) (hs : a.tmps.size = n) (hd : ∀ t, d = some t → t < n) (t : Nat) :
    RepS g H (putE env d x t) ((a.put d v).tmps.getD t undef) := by
  rw [put_getD]
  cases d with
  | none => rw [if_neg (by simp)]; exact h t
  | some d =>
    by_cases ht : d = t
    · subst ht
      rw [if_pos ⟨rfl, by rw [hs]; exact hd d rfl⟩, show putE env (some d) x d = x from upd_same _ _ _]; exact hx
    · rw [if_neg (fun h => ht (by simpa using h.1)), show putE env (some d) x t = env t from upd_ne _ _ (Ne.symm ht)]; exact h t
theorem step_rel {P : Program} {W0 : Fr} {K0 : Know} {g : G} {σ : St} {a : Act} {w : World} {o : Oper} {r : Res} (h : Rel W0 K0 g σ a w) (hs : AStep P o (evalS σ.env) σ.H σ.nx r) (hd : dstOk σ o) (ro : Option Nat) (Q : Exit → Act → World → Prop) :
    o.wpIn (fen ro) 0 P a w (fun a' w' => ∃ g', Rel W0 K0 g' (σ.step o r) a' w') Q := by
  refine Oper.wpIn_mono ?_ (step_sound h.mem (fun x _ => evalS_rep h x) hs ro Q)
  rintro a' w' ⟨v, g', rfl, hv, hm, hle⟩
  refine ⟨g', hm, fun t => ?_, by rw [put_size]; exact h.size, by rw [put_def]; exact h.defers.mono hle (up_obj hs), h.ln, h.rd, h.nodup, h.lt⟩
  exact env_put (d := o.dst) (x := r.v) (v := v) (fun t => (h.env t).mono hle) hv h.size (fun t ht => by have := hd; unfold dstOk at this; rw [ht] at this; exact this) t
theorem skip_rel {W0 : Fr} {K0 : Know} {g : G} {σ : St} {a : Act} {w : World} {o : Oper} (h : Rel W0 K0 g σ a w) (hd : dstOk σ o) : Rel W0 K0 g (σ.skip o) (a.put o.dst undef) w := by
  refine ⟨h.mem, fun t => ?_, by rw [put_size]; exact h.size, by rw [put_def]; exact h.defers, h.ln, h.rd, h.nodup, h.lt⟩
  exact env_put (x := .c (.d (.val undef))) (v := undef) (fun t => h.env t) (Rep.val undef) h.size (fun t ht => by have := hd; unfold dstOk at this; rw [ht] at this; exact this) t
theorem guard_wanted {g : G} {H : Hp} {env : Nat → SV} {a : Act} {all : List Oper} {o : Oper} {t : Bool} (h : ∀ j want oj d, o.guard = some (j, want) → all[j]? = some oj → oj.dst = some d → RepS g H (env d) (a.tmps.getD d undef)) (hg : guardB all env o = some t) : Region.wanted o (yielded all.toArray a.tmps) = t := by
  unfold guardB at hg
  unfold Region.wanted
  cases hgd : o.guard with
  | none => rw [hgd] at hg; cases hg; rfl
  | some q =>
    obtain ⟨j, want⟩ := q
    rw [hgd] at hg
    simp only at hg ⊢
    cases hj : all[j]? with
    | none => rw [hj] at hg; cases hg
    | some oj =>
      rw [hj] at hg
      simp only at hg
      cases hd : oj.dst with
      | none => rw [hd] at hg; cases hg
      | some d =>
        rw [hd] at hg
        simp only at hg
        have hr := h j want oj d hgd hj hd
        have hy : yielded all.toArray a.tmps j = match a.tmps[d]? with | some (.bool b) => some b | _ => none := by
          unfold yielded
          simp [hj, hd]
          cases a.tmps[d]? <;> rfl
        rw [hy]
        rw [Array.getD_eq_getD_getElem?] at hr
        cases hx : (env d).exact with
        | none => rw [hx] at hg; cases hg
        | some v =>
          rw [hx] at hg
          have hv := SV.exact_rep hr hx
          cases ht : a.tmps[d]? with
          | none =>
            rw [ht] at hv
            simp only [Option.getD_none] at hv
            subst hv
            simp only [undef] at hg
            cases hg
            simp
          | some u =>
            rw [ht] at hv
            simp only [Option.getD_some] at hv
            subst hv
            cases u <;> simp only at hg <;> cases hg <;> first | rfl | simp
theorem aops_list {P : Program} {W0 : Fr} {K0 : Know} {all : List Oper} {Q : Exit → Act → World → Prop} {k : St → List Foot → Prop} {ro : Option Nat} (hk : ∀ g σ tr a w, k σ tr → Rel W0 K0 g σ a w → Q .normal a w) :
    ∀ (l : List Oper) (g : G) (σ : St) (tr : List Foot) (a : Act) (w : World), aops P all l σ tr k → Rel W0 K0 g σ a w → wpListIn (fen ro) 0 P all.toArray Q l a w
  | [], g, σ, tr, a, w, h, hr => hk g σ _ a w h hr
  | o :: os, g, σ, tr, a, w, h, hr => by
    simp only [aops] at h
    split at h
    · exact h.elim
    · rename_i t ht
      have hw := guard_wanted (a := a) (fun _ _ _ d _ _ _ => hr.env d) ht
      unfold wpListIn
      rw [hw]
      cases t with
      | true =>
        obtain ⟨r, hr1, hd, hrest⟩ := astep_get (h.1 rfl)
        simp only [if_true]
        refine Oper.wpIn_mono ?_ (step_rel hr hr1 hd ro Q)
        rintro a' w' ⟨g', hr'⟩
        exact aops_list hk os g' _ _ a' w' hrest hr'
      | false =>
        obtain ⟨hd, hrest⟩ := h.2 rfl
        simp only [Bool.false_eq_true, if_false]
        exact ⟨fun _ _ => trivial, aops_list hk os g _ _ _ w hrest (skip_rel hr hd)⟩
end Go.Proofs.YtepcpdionlfkhaaGreatDoor
namespace Go.Proofs.YtepcpdionlfkhaaGreatDoor
open Go Go.RowKit
set_option linter.unusedVariables false
set_option linter.unusedSimpArgs false
/-- What stands at x when just the operations in f have been done: what the last of them has put there. -/
def lastW {α : Type} (N : Nat) (f : Nat → Bool) (key : Nat → Option Nat) (val : Nat → α) (base : Nat → α) (x : Nat) : α :=
  match (List.range N).reverse.find? (fun j => f j && key j == some x) with
  | some j => val j
  | none => base x
theorem find_congr {α : Type} {p q : α → Bool} : ∀ {l : List α}, (∀ x ∈ l, p x = q x) → l.find? p = l.find? q
  | [], _ => rfl
  | x :: l, h => by
    simp only [List.find?_cons]
    rw [h x (by simp), find_congr (fun y hy => h y (by simp [hy]))]
theorem lastW_congr {α : Type} {N : Nat} {f f' : Nat → Bool} {key : Nat → Option Nat} {val base : Nat → α} {x : Nat} (h : ∀ j, j < N → key j = some x → f j = f' j) : lastW N f key val base x = lastW N f' key val base x := by
  unfold lastW
  rw [find_congr (q := fun j => f' j && key j == some x)]
  intro j hj
  have hj : j < N := by simpa using hj
  by_cases hk : key j = some x
  · simp only [h j hj hk]
  · have : (key j == some x) = false := by simpa using hk
    simp only [this, Bool.and_false]
def updO {α : Type} (f : Nat → α) (k : Option Nat) (v : α) : Nat → α := match k with
  | some x => upd f x v
  | none => f
theorem find_last {N i : Nat} {p : Nat → Bool} (hi : i < N) (hp : p i = true) (hl : ∀ j, i < j → j < N → p j = false) : (List.range N).reverse.find? p = some i := by
  have hr : List.range N = List.range i ++ (i :: List.range' (i + 1) (N - i - 1)) := by
    rw [List.range_eq_range', List.range_eq_range']
    have : (i :: List.range' (i + 1) (N - i - 1)) = List.range' i (N - i) := by
      rw [show N - i = (N - i - 1) + 1 from by omega, List.range'_succ]; simp
    rw [this]
    have h := List.range'_append (s := 0) (m := i) (n := N - i) (step := 1)
    rw [show i + (N - i) = N from by omega] at h
    simpa using h.symm
  rw [hr, List.reverse_append, List.reverse_cons, List.append_assoc, List.find?_append]
  have : (List.range' (i + 1) (N - i - 1)).reverse.find? p = none := by
    rw [List.find?_eq_none]
    intro j hj
    simp only [List.mem_reverse, List.mem_range'_1] at hj
    rw [hl j (by omega) (by omega)]; simp
  rw [this]
  simp [hp]
def addF (f : Nat → Bool) (i : Nat) : Nat → Bool := fun j => if j = i then true else f j
theorem lastW_add {α : Type} {N i : Nat} {f : Nat → Bool} {key : Nat → Option Nat} {val base : Nat → α} (hi : i < N) (hl : ∀ j x, i < j → j < N → key i = some x → key j = some x → f j = false) :
    lastW N (addF f i) key val base = updO (lastW N f key val base) (key i) (val i) := by
  funext y
  cases hk : key i with
  | none =>
    exact lastW_congr (fun j hj hkj => by unfold addF; rw [if_neg (fun e => by subst e; rw [hk] at hkj; cases hkj)])
  | some x =>
    by_cases hxy : y = x
    · subst hxy
      rw [show updO (lastW N f key val base) (some y) (val i) y = val i from upd_same _ _ _]
      unfold lastW
      rw [find_last hi (by simp [addF, hk]) (fun j h1 h2 => by
        by_cases hkj : key j = some y
        · have := hl j y h1 h2 hk hkj
          simp [addF, show ¬ j = i from by omega, this]
        · simp [hkj])]
    · rw [show updO (lastW N f key val base) (some x) (val i) y = lastW N f key val base y from upd_ne _ _ hxy]
      exact lastW_congr (fun j hj hkj => by unfold addF; rw [if_neg (fun e => by subst e; rw [hk] at hkj; cases hkj; exact hxy rfl)])
/-! what an operation waits for -/
def edgesOf (o : Oper) : List Nat := (o.after.toList.filter (Region.binds .any ·)).map (·.on)
def ins (x : Nat) (l : List Nat) : List Nat := if l.contains x then l else x :: l
def befs : List Oper → List (List Nat) → List (List Nat)
  | [], acc => acc
  | o :: os, acc => befs os (acc ++ [(edgesOf o).foldl (fun l i => (acc.getD i []).foldl (fun l x => ins x l) (ins i l)) []])
theorem mem_ins {x y : Nat} {l : List Nat} (h : y ∈ ins x l) : y = x ∨ y ∈ l := by
  unfold ins at h
  split at h
  · exact .inr h
  · simpa using h
theorem mem_insAll {y : Nat} : ∀ {m l : List Nat}, y ∈ m.foldl (fun l x => ins x l) l → y ∈ m ∨ y ∈ l
  | [], l, h => .inr h
  | x :: m, l, h => by
    rcases mem_insAll (m := m) (l := ins x l) h with h | h
    · exact .inl (by simp [h])
    · rcases mem_ins h with rfl | h
      · exact .inl (by simp)
      · exact .inr h
theorem mem_step {acc : List (List Nat)} {y : Nat} : ∀ {es l : List Nat}, y ∈ es.foldl (fun l i => (acc.getD i []).foldl (fun l x => ins x l) (ins i l)) l → y ∈ l ∨ ∃ i ∈ es, y = i ∨ y ∈ acc.getD i []
  | [], l, h => .inl h
  | i :: es, l, h => by
    rcases mem_step (es := es) h with h | ⟨k, hk, h⟩
    · rcases mem_insAll h with h | h
      · exact .inr ⟨i, by simp, .inr h⟩
      · rcases mem_ins h with rfl | h
        · exact .inr ⟨y, by simp, .inl rfl⟩
        · exact .inl h
    · exact .inr ⟨k, by simp [hk], h⟩
/-- Whatever holds all that is waited for holds what befs says. -/
theorem befs_closed {L : Nat → Prop} {all : List Oper} (hL : ∀ j o, all[j]? = some o → L j → ∀ i ∈ edgesOf o, L i) : ∀ (os pre : List Oper) (acc : List (List Nat)), all = pre ++ os → acc.length = pre.length → (∀ j l, acc[j]? = some l → L j → ∀ i ∈ l, L i) →
    ∀ j l, (befs os acc)[j]? = some l → L j → ∀ i ∈ l, L i
  | [], pre, acc, hall, hlen, hacc, j, l, hj, hLj, i, hi => hacc j l hj hLj i hi
  | o :: os, pre, acc, hall, hlen, hacc, j, l, hj, hLj, i, hi => by
    refine befs_closed hL os (pre ++ [o]) _ (by simp [hall]) (by simp [hlen]) ?_ j l hj hLj i hi
    intro j l hj hLj i hi
    rcases Nat.lt_or_ge j acc.length with h | h
    · rw [List.getElem?_append_left h] at hj
      exact hacc j l hj hLj i hi
    · rw [List.getElem?_append_right h] at hj
      have hj0 : j - acc.length = 0 := by
        rcases Nat.eq_zero_or_pos (j - acc.length) with h' | h'
        · exact h'
        · rw [show j - acc.length = (j - acc.length - 1) + 1 from by omega] at hj; simp at hj
      rw [hj0] at hj
      simp only [List.getElem?_cons_zero, Option.some.injEq] at hj
      subst hj
      have hjo : all[j]? = some o := by
        rw [hall, List.getElem?_append_right (by omega), show j - pre.length = 0 from by omega]; rfl
      rcases mem_step hi with hi | ⟨k, hk, hi⟩
      · simp at hi
      · have hLk := hL j o hjo hLj k hk
        rcases hi with rfl | hi
        · exact hLk
        · cases hka : acc[k]? with
          | none => rw [List.getD_eq_getElem?_getD, hka] at hi; simp at hi
          | some m =>
            rw [List.getD_eq_getElem?_getD, hka] at hi
            exact hacc k m hka hLk i (by simpa using hi)
def readsOf (all : List Oper) (o : Oper) : List Nat :=
  (o.op.operands.toList.filterMap fun | .tmp t => some t | _ => none) ++ (match o.guard with
    | some (j, _) => match all[j]? with
      | some oj => oj.dst.toList
      | none => []
    | none => [])
def apartD (x : Option Nat) (l : List Nat) : Bool := match x with
  | some d => !l.contains d
  | none => true
/-- Do two operations, the first ahead of the second in the text, hang together? -/
def needs (all : List Oper) (oi oj : Oper) (fi fj : Foot) : Bool :=
  !(apartD oi.dst (readsOf all oj ++ oj.dst.toList) && apartD oj.dst (readsOf all oi) && apartD fi.wr fj.fp && apartD fj.wr fi.fp)
def okPairs (all : List Oper) (bs : List (List Nat)) (fs : List Foot) : Bool :=
  (List.range all.length).all fun j => (List.range j).all fun i =>
    match all[i]?, all[j]?, fs[i]?, fs[j]?, bs[j]? with
    | some oi, some oj, some fi, some fj, some b => !needs all oi oj fi fj || b.contains i
    | _, _, _, _, _ => false
def okTr (all : List Oper) (fs : List Foot) : Bool :=
  fs.length == all.length && okPairs all (befs all []) fs && ((List.range all.length).all fun j => match all[j]? with
    | some o => (edgesOf o).all (· < j)
    | none => false) && fs.all fun f => match f.wr with
      | some x => f.fp.contains x
      | none => true
theorem okTr_back {all : List Oper} {fs : List Foot} (h : okTr all fs = true) {j : Nat} {o : Oper} (hj : all[j]? = some o) {i : Nat} (hi : i ∈ edgesOf o) : i < j := by
  simp only [okTr, Bool.and_eq_true] at h
  have := List.all_eq_true.1 h.1.2 j (by simpa using (List.getElem?_eq_some_iff.1 hj).1)
  rw [hj] at this
  have := List.all_eq_true.1 this i hi
  simpa using this
theorem okTr_wr {all : List Oper} {fs : List Foot} (h : okTr all fs = true) {j x : Nat} {f : Foot} (hj : fs[j]? = some f) (hx : f.wr = some x) : x ∈ f.fp := by
  simp only [okTr, Bool.and_eq_true] at h
  have := List.all_eq_true.1 h.2 f (List.mem_of_getElem? hj)
  rw [hx] at this
  simpa using this
theorem okTr_pair {all : List Oper} {fs : List Foot} (h : okTr all fs = true) {i j : Nat} {oi oj : Oper} {fi fj : Foot} (hij : i < j) (hi : all[i]? = some oi) (hj : all[j]? = some oj) (hfi : fs[i]? = some fi) (hfj : fs[j]? = some fj)
    (hn : needs all oi oj fi fj = true) {L : Nat → Prop} (hL : ∀ j o, all[j]? = some o → L j → ∀ i ∈ edgesOf o, L i) (hLj : L j) : L i := by
  have hcl := befs_closed hL all [] [] rfl rfl (fun j l hj => by simp at hj) j
  simp only [okTr, Bool.and_eq_true] at h
  have h2 := List.all_eq_true.1 h.1.1.2 j (by simpa using (List.getElem?_eq_some_iff.1 hj).1)
  have h3 := List.all_eq_true.1 h2 i (by simpa using hij)
  rw [hi, hj, hfi, hfj] at h3
  cases hb : (befs all [])[j]? with
  | none => rw [hb] at h3; cases h3
  | some b =>
    rw [hb] at h3
    simp only [hn, Bool.not_true, Bool.false_or, List.contains_iff_mem] at h3
    exact hcl b hb hLj i h3
theorem needs_dst {all : List Oper} {oi oj : Oper} {fi fj : Foot} {d : Nat} (h : oi.dst = some d) (hr : d ∈ readsOf all oj ∨ oj.dst = some d) : needs all oi oj fi fj = true := by
  have : apartD oi.dst (readsOf all oj ++ oj.dst.toList) = false := by
    rw [h]; simp only [apartD, Bool.not_eq_false', List.contains_iff_mem]
    rcases hr with hr | hr
    · simp [hr]
    · simp [hr]
  simp [needs, this]
theorem needs_read {all : List Oper} {oi oj : Oper} {fi fj : Foot} {d : Nat} (h : oj.dst = some d) (hr : d ∈ readsOf all oi) : needs all oi oj fi fj = true := by
  have : apartD oj.dst (readsOf all oi) = false := by
    rw [h]; simp only [apartD, Bool.not_eq_false', List.contains_iff_mem]; exact hr
  simp [needs, this]
theorem needs_wr {all : List Oper} {oi oj : Oper} {fi fj : Foot} {d : Nat} (h : fi.wr = some d) (hr : d ∈ fj.fp) : needs all oi oj fi fj = true := by
  have : apartD fi.wr fj.fp = false := by
    rw [h]; simp only [apartD, Bool.not_eq_false', List.contains_iff_mem]; exact hr
  simp [needs, this]
theorem needs_wr' {all : List Oper} {oi oj : Oper} {fi fj : Foot} {d : Nat} (h : fj.wr = some d) (hr : d ∈ fi.fp) : needs all oi oj fi fj = true := by
  have : apartD fj.wr fi.fp = false := by
    rw [h]; simp only [apartD, Bool.not_eq_false', List.contains_iff_mem]; exact hr
  simp [needs, this]
end Go.Proofs.YtepcpdionlfkhaaGreatDoor
namespace Go.Proofs.YtepcpdionlfkhaaGreatDoor
open Go Go.RowKit
set_option linter.unusedVariables false
set_option linter.unusedSimpArgs false
section
variable {P : Program} {ops : Array Oper} {Q : Exit → Act → World → Prop} {md : Region.Mode} {ro : Option Nat}
def kFalses (l : Array Bool) : Nat := l.toList.countP (! ·)
theorem kFalses_set {l : Array Bool} {i : Nat} (h : l.getD i true = false) : kFalses (l.setIfInBounds i true) + 1 = kFalses l := by
  obtain ⟨l⟩ := l
  unfold kFalses
  simp only [Array.getD_eq_getD_getElem?, List.getElem?_toArray] at h
  simp only [List.setIfInBounds_toArray]
  induction l generalizing i with
  | nil => simp at h
  | cons b l ih =>
    cases i with
    | zero => simp at h; subst h; simp
    | succ i =>
      simp only [List.getElem?_cons_succ] at h
      have := ih h
      simp only [List.set_cons_succ, List.countP_cons]
      omega
theorem kReady {listed : Array Bool} {i : Nat} (h : i ∈ Region.ready md ops listed) :
    listed.getD i true = false ∧ ∃ o, ops[i]? = some o ∧ ∀ e ∈ o.after, Region.binds md e = true → listed.getD e.on false = true := by
  unfold Region.ready at h
  rw [List.mem_filter] at h
  obtain ⟨h1, h2⟩ := h
  simp only [Bool.and_eq_true, Bool.not_eq_true'] at h2
  refine ⟨h2.1, ?_⟩
  cases ho : ops[i]? with
  | none => rw [ho] at h2; simp at h2
  | some o =>
    rw [ho] at h2
    refine ⟨o, rfl, fun e he hb => ?_⟩
    have h3 := h2.2
    simp only [Option.map_some, Option.getD_some, Array.all_eq_true'] at h3
    have := h3 e he
    simpa [hb] using this
theorem kAny_inv {Inv : Array Bool → Act → World → Prop}
    (hstep : ∀ (listed : Array Bool) (a : Act) (w : World) (i : Nat), listed.size = ops.size → Inv listed a w → i ∈ Region.ready md ops listed → wpOpIn (fen ro) 0 P ops Q i (fun a' w' => Inv (listed.setIfInBounds i true) a' w') a w)
    (hdone : ∀ (listed : Array Bool) (a : Act) (w : World), listed.size = ops.size → Inv listed a w → Region.ready md ops listed = [] → Q .normal a w) :
    ∀ (fuel : Nat) (listed : Array Bool) (a : Act) (w : World), listed.size = ops.size → kFalses listed ≤ fuel → Inv listed a w → wpAnyIn (fen ro) 0 P md ops Q fuel listed a w := by
  intro fuel
  induction fuel with
  | zero =>
    intro listed a w hs hf hi
    have hr : Region.ready md ops listed = [] := by
      cases h : Region.ready md ops listed with
      | nil => rfl
      | cons i r =>
        have hm : i ∈ Region.ready md ops listed := by rw [h]; simp
        have h1 := (kReady hm).1
        have := kFalses_set h1
        omega
    exact ⟨hr, hdone listed a w hs hi hr⟩
  | succ fuel ih =>
    intro listed a w hs hf hi
    refine ⟨hdone listed a w hs hi, fun i him => ?_⟩
    have h1 := kFalses_set (kReady him).1
    exact wpOpIn_mono (fun a' w' h => ih _ a' w' (by simpa using hs) (by omega) h) (hstep listed a w i hs hi him)
end
def stepsTo (P : Program) (all : List Oper) (i : Nat) (σ : St) (q : Option Res) (σ' : St) : Prop :=
  ∃ o, all[i]? = some o ∧ dstOk σ o ∧ match q with
    | some r => guardB all σ.env o = some true ∧ AStep P o (evalS σ.env) σ.H σ.nx r ∧ σ' = σ.step o r
    | none => guardB all σ.env o = some false ∧ σ' = σ.skip o
def footOf : Option Res → Foot
  | some r => ⟨r.fp, r.up.map (·.1)⟩
  | none => ⟨[], none⟩
theorem aops_trace {P : Program} {all : List Oper} {k : St → List Foot → Prop} : ∀ (l pre : List Oper) (σ : St) (tr : List Foot), all = pre ++ l → aops P all l σ tr k →
    ∃ (q : Nat → Option Res) (st : Nat → St), st pre.length = σ ∧ (∀ i, pre.length ≤ i → i < all.length → stepsTo P all i (st i) (q i) (st (i + 1))) ∧
      k (st all.length) (tr.reverse ++ (List.range' pre.length l.length).map (fun i => footOf (q i)))
  | [], pre, σ, tr, hall, h => by
    refine ⟨fun _ => none, fun _ => σ, rfl, fun i h1 h2 => ?_, by simpa [aops] using h⟩
    rw [hall] at h2; simp at h2; omega
  | o :: os, pre, σ, tr, hall, h => by
    have hlen : all.length = pre.length + (os.length + 1) := by rw [hall]; simp
    have hget : all[pre.length]? = some o := by rw [hall]; simp
    simp only [aops] at h
    split at h
    · exact h.elim
    · rename_i t ht
      have key : ∃ (q0 : Option Res) (σ1 : St), stepsTo P all pre.length σ q0 σ1 ∧ aops P all os σ1 (footOf q0 :: tr) k := by
        cases t with
        | true =>
          obtain ⟨r, hr1, hd, hrest⟩ := astep_get (h.1 rfl)
          exact ⟨some r, _, ⟨o, hget, hd, ht, hr1, rfl⟩, hrest⟩
        | false =>
          obtain ⟨hd, hrest⟩ := h.2 rfl
          exact ⟨none, _, ⟨o, hget, hd, ht, rfl⟩, hrest⟩
      obtain ⟨q0, σ1, hs, hrest⟩ := key
      obtain ⟨q, st, h0, hsteps, hk⟩ := aops_trace os (pre ++ [o]) σ1 (footOf q0 :: tr) (by simp [hall]) hrest
      simp only [List.length_append, List.length_cons, List.length_nil, Nat.zero_add] at h0 hsteps hk
      refine ⟨upd q pre.length q0, upd st pre.length σ, upd_same _ _ _, fun i h1 h2 => ?_, ?_⟩
      · by_cases hi : i = pre.length
        · subst hi
          rw [upd_same, upd_same, upd_ne _ _ (by omega), h0]; exact hs
        · rw [upd_ne _ _ hi, upd_ne _ _ hi, upd_ne _ _ (by omega)]
          exact hsteps i (by omega) h2
      · rw [upd_ne _ _ (by omega)]
        have e : (tr.reverse ++ (List.range' pre.length (o :: os).length).map (fun i => footOf (upd q pre.length q0 i))) = (footOf q0 :: tr).reverse ++ (List.range' (pre.length + 1) os.length).map (fun i => footOf (q i)) := by
          simp only [List.length_cons, List.range'_succ, List.map_cons, upd_same, List.reverse_cons, List.append_assoc, List.cons_append, List.nil_append]
          congr 2
          apply List.map_congr_left
          intro i hi
          rw [List.mem_range'_1] at hi
          rw [upd_ne _ _ (by omega)]
        rw [e]; exact hk
theorem guardB_congr {all : List Oper} {E E' : Nat → SV} {o : Oper} (h : ∀ t ∈ readsOf all o, E t = E' t) : guardB all E o = guardB all E' o := by
  unfold guardB
  cases hg : o.guard with
  | none => rfl
  | some q =>
    obtain ⟨j, want⟩ := q
    simp only
    cases hj : all[j]? with
    | none => rfl
    | some oj =>
      simp only
      cases hd : oj.dst with
      | none => rfl
      | some d =>
        simp only
        rw [h d (by simp [readsOf, hg, hj, hd])]
theorem evalS_congr {all : List Oper} {E E' : Nat → SV} {o : Oper} (h : ∀ t ∈ readsOf all o, E t = E' t) : ∀ x ∈ o.op.operands, evalS E x = evalS E' x := by
  intro x hx
  cases x with
  | tmp t => exact h t (by
      simp only [readsOf, List.mem_append, List.mem_filterMap]
      exact .inl ⟨.tmp t, by simpa using hx, rfl⟩)
  | _ => rfl
theorem hup_eq (H : Hp) (u : Option (Nat × HE)) : hup H u = updO H (u.map (·.1)) (u.map (·.2)) := by
  cases u with
  | none => rfl
  | some q => rfl
def ltF (i : Nat) : Nat → Bool := fun j => decide (j < i)
theorem ltF_succ (i : Nat) : ltF (i + 1) = addF (ltF i) i := by
  funext j
  unfold ltF addF
  by_cases h : j = i
  · subst h; simp
  · rw [if_neg h]
    exact decide_eq_decide.2 (by omega)
theorem lastW_none {α : Type} {N : Nat} {f : Nat → Bool} {key : Nat → Option Nat} {val base : Nat → α} (h : ∀ j, f j = false) : lastW N f key val base = base := by
  funext x
  unfold lastW
  have : (List.range N).reverse.find? (fun j => f j && key j == some x) = none := by
    rw [List.find?_eq_none]; intro j _; simp [h j]
  rw [this]
theorem wp_region_drawn {P : Program} {W0 : Fr} {K0 : Know} {id : Nat} {all : List Oper} {Q : Exit → Act → World → Prop} {k : St → List Foot → Prop} {g : G} {σ : St} {a : Act} {w : World} {ro : Option Nat} (hm : P.follows .mixedOrders = true) (hk : ∀ g σ tr a w, k σ tr → Rel W0 K0 g σ a w → Q .normal a w)
    (h : aops P all all σ [] (fun σ' tr => okTr all tr = true ∧ k σ' tr)) (hr : Rel W0 K0 g σ a w) : (Code.region id all.toArray true).wpIn (fen ro) 0 P Q a w := by
  obtain ⟨q, st, h0, hsteps, hok, hkk⟩ := aops_trace all [] σ [] rfl h
  simp only [List.length_nil, List.reverse_nil, List.nil_append, Nat.zero_le, forall_const] at h0 hsteps hok hkk
  have hfs : ∀ i, i < all.length → ((List.range' 0 all.length).map (fun i => footOf (q i)))[i]? = some (footOf (q i)) := fun i hi => by
    rw [List.getElem?_map, List.getElem?_range' (by simpa using hi)]; simp
  generalize hF : (List.range' 0 all.length).map (fun i => footOf (q i)) = fs at hok hkk hfs
  clear hF
  let vals : Nat → SV := fun i => match q i with | some r => r.v | none => .c (.d (.val undef))
  let upv : Nat → Option (Nat × HE) := fun i => match q i with | some r => r.up | none => none
  let key1 : Nat → Option Nat := fun i => (all[i]?).bind (·.dst)
  let key2 : Nat → Option Nat := fun i => (upv i).map (·.1)
  let val2 : Nat → Option HE := fun i => (upv i).map (·.2)
  let E : (Nat → Bool) → Nat → SV := fun f => lastW all.length f key1 vals σ.env
  let Hf : (Nat → Bool) → Hp := fun f => lastW all.length f key2 val2 σ.H
  have hwr : ∀ i, (footOf (q i)).wr = key2 i := fun i => by
    show _ = (upv i).map (·.1)
    simp only [upv]
    cases q i <;> rfl
  have hst : ∀ i, i ≤ all.length → (st i).env = E (ltF i) ∧ (st i).H = Hf (ltF i) ∧ (st i).sz = σ.sz ∧ (st i).fx = σ.fx := by
    intro i
    induction i with
    | zero =>
      intro _
      rw [h0]
      exact ⟨(lastW_none (fun j => by simp [ltF])).symm, (lastW_none (fun j => by simp [ltF])).symm, rfl, rfl⟩
    | succ i ih =>
      intro hi
      obtain ⟨he, hH, hz⟩ := ih (by omega)
      obtain ⟨o, ho, hd, hs⟩ := hsteps i (by omega)
      have e1 : E (ltF (i + 1)) = updO (E (ltF i)) (key1 i) (vals i) := by
        show lastW _ _ _ _ _ = _
        rw [ltF_succ]; exact lastW_add (by omega) (fun j x h1 _ _ _ => by simp [ltF]; omega)
      have e2 : Hf (ltF (i + 1)) = updO (Hf (ltF i)) (key2 i) (val2 i) := by
        show lastW _ _ _ _ _ = _
        rw [ltF_succ]; exact lastW_add (by omega) (fun j x h1 _ _ _ => by simp [ltF]; omega)
      have hk1 : key1 i = o.dst := by show (all[i]?).bind _ = _; rw [ho]; rfl
      cases hq : q i with
      | some r =>
        rw [hq] at hs
        obtain ⟨_, _, hs⟩ := hs
        have hv : vals i = r.v := by show (match q i with | some r => r.v | none => _) = _; rw [hq]
        have hu : upv i = r.up := by show (match q i with | some r => r.up | none => _) = _; rw [hq]
        rw [hs]
        refine ⟨?_, ?_, hz⟩
        · rw [e1, hk1, hv, ← he]
          show putE (st i).env o.dst r.v = _
          cases o.dst <;> rfl
        · rw [e2, ← hH]
          show hup (st i).H r.up = updO _ ((upv i).map _) ((upv i).map _)
          rw [hup_eq, hu]
      | none =>
        rw [hq] at hs
        obtain ⟨_, hs⟩ := hs
        have hv : vals i = .c (.d (.val undef)) := by show (match q i with | some r => r.v | none => _) = _; rw [hq]
        have hu : upv i = none := by show (match q i with | some r => r.up | none => _) = _; rw [hq]
        rw [hs]
        refine ⟨?_, ?_, hz⟩
        · rw [e1, hk1, hv, ← he]
          show putE (st i).env o.dst _ = _
          cases o.dst <;> rfl
        · rw [e2, ← hH]
          show (st i).H = updO _ ((upv i).map _) ((upv i).map _)
          rw [hu]; rfl
  let fOf : Array Bool → Nat → Bool := fun listed j => listed.getD j false
  refine wpIn_region_any hm (kAny_inv (Inv := fun listed a w => (∀ j o, all[j]? = some o → fOf listed j = true → ∀ i ∈ edgesOf o, fOf listed i = true) ∧ ∃ g, Rel W0 K0 g ⟨E (fOf listed), Hf (fOf listed), 0, σ.sz, σ.fx⟩ a w) ?_ ?_ _ _ _ _ (by simp) ?_ ?_)
  · intro listed a w i hls hinv hri
    obtain ⟨hcl, g, hrel⟩ := hinv
    obtain ⟨hun, o, ho, hedge⟩ := kReady hri
    have hlt : i < all.length := by have := (Array.getElem?_eq_some_iff.1 ho).1; simpa using this
    have hoi : all[i]? = some o := by simpa using ho
    have hlsz : i < listed.size := by rw [hls]; simpa using hlt
    have hfi : fOf listed i = false := by
      show listed.getD i false = false
      rw [Array.getD_eq_getD_getElem?, Array.getElem?_eq_getElem hlsz] at hun ⊢
      simpa using hun
    have hset : fOf (listed.setIfInBounds i true) = addF (fOf listed) i := by
      funext j
      show (listed.setIfInBounds i true).getD j false = _
      unfold addF
      rw [Array.getD_eq_getD_getElem?, Array.getElem?_setIfInBounds]
      by_cases hj : j = i
      · subst hj; simp [hlsz]
      · rw [if_neg (Ne.symm hj), if_neg hj]
        show _ = listed.getD j false
        rw [Array.getD_eq_getD_getElem?]
    have hcl' : ∀ j o', all[j]? = some o' → addF (fOf listed) i j = true → ∀ x ∈ edgesOf o', addF (fOf listed) i x = true := by
      intro j o' hj hf x hx
      by_cases hji : j = i
      · subst hji
        rw [hoi] at hj; cases hj
        simp only [edgesOf, List.mem_map, List.mem_filter] at hx
        obtain ⟨e, ⟨he, hb⟩, rfl⟩ := hx
        have := hedge e (by simpa using he) hb
        unfold addF; split
        · rfl
        · exact this
      · unfold addF at hf
        rw [if_neg hji] at hf
        have := hcl j o' hj hf x hx
        unfold addF; split
        · rfl
        · exact this
    obtain ⟨o', ho', hd, hs⟩ := hsteps i hlt
    rw [hoi] at ho'; cases ho'
    obtain ⟨hse, hsH, hssz⟩ := hst i (by omega)
    have hgetj : ∀ j, j < all.length → ∃ oj, all[j]? = some oj := fun j hj => ⟨_, List.getElem?_eq_getElem hj⟩
    -- behind: what comes later in the text and hangs on i is not yet done
    have hlater : ∀ j oj, i < j → all[j]? = some oj → needs all o oj (footOf (q i)) (footOf (q j)) = true → fOf listed j = false := by
      intro j oj hij hj hn
      cases hfj : fOf listed j with
      | false => rfl
      | true =>
        have := okTr_pair hok hij hoi hj (hfs i hlt) (hfs j (List.getElem?_eq_some_iff.1 hj).1) hn (L := fun x => fOf listed x = true) hcl hfj
        rw [hfi] at this; cases this
    have hearlier : ∀ j oj, j < i → all[j]? = some oj → needs all oj o (footOf (q j)) (footOf (q i)) = true → fOf listed j = true := by
      intro j oj hij hj hn
      have := okTr_pair hok hij hj hoi (hfs j (by omega)) (hfs i hlt) hn (L := fun x => addF (fOf listed) i x = true) hcl' (by simp [addF])
      unfold addF at this
      rw [if_neg (by omega)] at this
      exact this
    have hA : ∀ t ∈ readsOf all o, E (fOf listed) t = (st i).env t := by
      intro t ht
      rw [hse]
      refine lastW_congr (fun j hj hkj => ?_)
      obtain ⟨oj, hoj⟩ := hgetj j hj
      have hdj : oj.dst = some t := by have : (all[j]?).bind (·.dst) = some t := hkj; rw [hoj] at this; exact this
      rcases Nat.lt_trichotomy j i with h | h | h
      · rw [hearlier j oj h hoj (needs_dst hdj (.inl ht))]; simp [ltF, h]
      · subst h; rw [hfi]; simp [ltF]
      · rw [hlater j oj h hoj (needs_read hdj ht)]; simp [ltF]; omega
    have hB : ∀ x ∈ (footOf (q i)).fp, Hf (fOf listed) x = (st i).H x := by
      intro x hx
      rw [hsH]
      refine lastW_congr (fun j hj hkj => ?_)
      obtain ⟨oj, hoj⟩ := hgetj j hj
      have hwj : (footOf (q j)).wr = some x := (hwr j).trans hkj
      rcases Nat.lt_trichotomy j i with h | h | h
      · rw [hearlier j oj h hoj (needs_wr hwj hx)]; simp [ltF, h]
      · subst h; rw [hfi]; simp [ltF]
      · rw [hlater j oj h hoj (needs_wr' hwj hx)]; simp [ltF]; omega
    have hE1 : E (addF (fOf listed) i) = updO (E (fOf listed)) (key1 i) (vals i) := by
      refine lastW_add hlt (fun j x h1 h2 hki hkj => ?_)
      obtain ⟨oj, hoj⟩ := hgetj j h2
      have hdi : o.dst = some x := by have : (all[i]?).bind (·.dst) = some x := hki; rw [hoi] at this; exact this
      have hdj : oj.dst = some x := by have : (all[j]?).bind (·.dst) = some x := hkj; rw [hoj] at this; exact this
      exact hlater j oj h1 hoj (needs_dst hdi (.inr hdj))
    have hH1 : Hf (addF (fOf listed) i) = updO (Hf (fOf listed)) (key2 i) (val2 i) := by
      refine lastW_add hlt (fun j x h1 h2 hki hkj => ?_)
      obtain ⟨oj, hoj⟩ := hgetj j h2
      have hwi : (footOf (q i)).wr = some x := (hwr i).trans hki
      have hwj : (footOf (q j)).wr = some x := (hwr j).trans hkj
      exact hlater j oj h1 hoj (needs_wr hwi (okTr_wr hok (hfs j h2) hwj))
    have hk1 : key1 i = o.dst := by show (all[i]?).bind _ = _; rw [hoi]; rfl
    have hd' : dstOk ⟨E (fOf listed), Hf (fOf listed), (st i).nx, σ.sz, σ.fx⟩ o := by
      unfold dstOk at hd ⊢
      rw [hssz.1] at hd; exact hd
    have hrel' : Rel W0 K0 g ⟨E (fOf listed), Hf (fOf listed), (st i).nx, σ.sz, σ.fx⟩ a w := ⟨hrel.mem, hrel.env, hrel.size, hrel.defers, hrel.ln, hrel.rd, hrel.nodup, hrel.lt⟩
    have hgb : guardB all (E (fOf listed)) o = guardB all (st i).env o := guardB_congr hA
    unfold wpOpIn
    rw [ho]
    simp only
    cases hq : q i with
    | some r =>
      rw [hq] at hs
      obtain ⟨hgd, hast, _⟩ := hs
      have hw := guard_wanted (a := a) (env := E (fOf listed)) (fun _ _ _ d _ _ _ => hrel.env d) (hgb.trans hgd)
      rw [hw, if_pos rfl]
      have hv : vals i = r.v := by show (match q i with | some r => r.v | none => _) = _; rw [hq]
      have hu : upv i = r.up := by show (match q i with | some r => r.up | none => _) = _; rw [hq]
      have hloc : AStep P o (evalS (E (fOf listed))) (Hf (fOf listed)) (st i).nx r :=
        hast.local (fun x hx => (evalS_congr hA x hx).symm) (fun x hx => hB x (by rw [hq]; exact hx))
      refine Oper.wpIn_mono ?_ (step_rel hrel' hloc hd' ro Q)
      rintro a' w' ⟨g', hr'⟩
      rw [hset]
      refine ⟨hcl', g', ?_⟩
      have e1 : E (addF (fOf listed) i) = putE (E (fOf listed)) o.dst r.v := by
        rw [hE1, hk1, hv]; cases o.dst <;> rfl
      have e2 : Hf (addF (fOf listed) i) = hup (Hf (fOf listed)) r.up := by
        rw [hH1, hup_eq]
        show updO _ ((upv i).map _) ((upv i).map _) = _
        rw [hu]
      rw [e1, e2]
      exact ⟨hr'.mem, hr'.env, hr'.size, hr'.defers, hr'.ln, hr'.rd, hr'.nodup, hr'.lt⟩
    | none =>
      rw [hq] at hs
      obtain ⟨hgd, _⟩ := hs
      have hw := guard_wanted (a := a) (env := E (fOf listed)) (fun _ _ _ d _ _ _ => hrel.env d) (hgb.trans hgd)
      rw [hw, if_neg (by simp)]
      have hv : vals i = .c (.d (.val undef)) := by show (match q i with | some r => r.v | none => _) = _; rw [hq]
      have hu : upv i = none := by show (match q i with | some r => r.up | none => _) = _; rw [hq]
      refine ⟨fun _ _ => trivial, ?_⟩
      rw [hset]
      refine ⟨hcl', g, ?_⟩
      have e1 : E (addF (fOf listed) i) = putE (E (fOf listed)) o.dst (.c (.d (.val undef))) := by
        rw [hE1, hk1, hv]; cases o.dst <;> rfl
      have e2 : Hf (addF (fOf listed) i) = Hf (fOf listed) := by
        rw [hH1]
        show updO _ ((upv i).map _) ((upv i).map _) = _
        rw [hu]; rfl
      have := skip_rel hrel' hd'
      rw [e1, e2]
      exact ⟨this.mem, this.env, this.size, this.defers, this.ln, this.rd, this.nodup, this.lt⟩
  · intro listed a w hls hinv hready
    obtain ⟨hcl, g, hrel⟩ := hinv
    have hall : ∀ n j, j < n → j < all.length → fOf listed j = true := by
      intro n
      induction n with
      | zero => intro j h; omega
      | succ n ih =>
        intro j hj hjl
        cases hfj : fOf listed j with
        | true => rfl
        | false =>
          exfalso
          obtain ⟨oj, hoj⟩ : ∃ oj, all[j]? = some oj := ⟨_, List.getElem?_eq_getElem hjl⟩
          have hjs : j < listed.size := by rw [hls]; simpa using hjl
          have : j ∈ Region.ready .any all.toArray listed := by
            unfold Region.ready
            rw [List.mem_filter]
            refine ⟨by simpa using hjl, ?_⟩
            have h1 : listed.getD j true = false := by
              have : listed.getD j false = false := hfj
              rw [Array.getD_eq_getD_getElem?, Array.getElem?_eq_getElem hjs] at this ⊢
              simpa using this
            simp only [h1, Bool.not_false, Bool.true_and, List.getElem?_toArray, hoj, Option.map_some, Option.getD_some, Array.all_eq_true']
            intro e he
            cases hb : Region.binds .any e with
            | false => simp
            | true =>
              have hm : e.on ∈ edgesOf oj := by
                simp only [edgesOf, List.mem_map, List.mem_filter]
                exact ⟨e, ⟨by simpa using he, hb⟩, rfl⟩
              have hlt := okTr_back hok hoj hm
              have := ih e.on (by omega) (by omega)
              have this : listed.getD e.on false = true := this
              simp [this]
          rw [hready] at this
          simp at this
    obtain ⟨hse, hsH, hssz⟩ := hst all.length (Nat.le_refl _)
    have e1 : E (fOf listed) = (st all.length).env := by
      rw [hse]; funext t
      exact lastW_congr (fun j hj _ => by rw [hall _ j (Nat.lt_succ_self j) hj]; simp [ltF, hj])
    have e2 : Hf (fOf listed) = (st all.length).H := by
      rw [hsH]; funext t
      exact lastW_congr (fun j hj _ => by rw [hall _ j (Nat.lt_succ_self j) hj]; simp [ltF, hj])
    rw [e1, e2] at hrel
    exact hk g (st all.length) fs a w hkk ⟨hrel.mem, hrel.env, by rw [hssz.1]; exact hrel.size, by rw [hssz.2]; exact hrel.defers, by rw [hssz.2]; exact hrel.ln, by rw [hssz.2]; exact hrel.rd, by rw [hssz.2]; exact hrel.nodup, by rw [hssz.2]; exact hrel.lt⟩
  · exact Nat.le_trans List.countP_le_length (by simp)
  · have hf : ∀ j, fOf (Array.replicate all.toArray.size false) j = false := fun j => by
      show (Array.replicate _ false).getD j false = false
      rw [Array.getD_eq_getD_getElem?]
      simp only [Array.getElem?_replicate]
      split <;> rfl
    refine ⟨(fun j o hj h => absurd h (by rw [hf j]; simp)), g, ?_⟩
    have e1 : E (fOf (Array.replicate all.toArray.size false)) = σ.env := lastW_none hf
    have e2 : Hf (fOf (Array.replicate all.toArray.size false)) = σ.H := lastW_none hf
    rw [e1, e2]
    exact ⟨hr.mem.drew, hr.env, hr.size, hr.defers, hr.ln, hr.rd, hr.nodup, hr.lt⟩
end Go.Proofs.YtepcpdionlfkhaaGreatDoor
namespace Go.Proofs.YtepcpdionlfkhaaGreatDoor
open Go Go.RowKit
set_option linter.unusedVariables false
set_option linter.unusedSimpArgs false
/-- What the machine may forget or see otherwise. -/
def Weak (σ σ' : St) : Prop := ∀ W0 K0 g a w, Rel W0 K0 g σ a w → ∃ g', Rel W0 K0 g' σ' a w
theorem Weak.refl (σ : St) : Weak σ σ := fun _ _ g _ _ h => ⟨g, h⟩
theorem Weak.trans {σ σ' σ'' : St} (h : Weak σ σ') (h' : Weak σ' σ'') : Weak σ σ'' := fun W0 K0 g a w r => let ⟨g', r'⟩ := h W0 K0 g a w r; h' W0 K0 g' a w r'
/-- THE MACHINE's WEAKEST PRECONDITION. -/
def Wp (P : Program) (c : Code) (σ : St) (Q : Exit → St → Prop) : Prop := ∀ W0 K0 g a w, Rel W0 K0 g σ a w → c.wpIn (fen W0.ro) 0 P (fun e a' w' => ∃ g' σ', Rel W0 K0 g' σ' a' w' ∧ Q e σ') a w
def tQ0 (K : St → Prop) (Q : Exit → St → Prop) : Exit → St → Prop
  | .normal, σ => K σ
  | e, σ => Q e σ
def kQ0 (id : Nat) (Q : Exit → St → Prop) : Exit → St → Prop
  | .exit i, σ => if i = id then Q .normal σ else Q (.exit i) σ
  | e, σ => Q e σ
section
variable {P : Program} {σ : St} {Q : Exit → St → Prop}
theorem Wp.weak {c : Code} {σ' : St} (hw : Weak σ σ') (h : Wp P c σ' Q) : Wp P c σ Q := fun W0 K0 g a w r => let ⟨g', r'⟩ := hw W0 K0 g a w r; h W0 K0 g' a w r'
theorem Wp.mono {c : Code} {Q' : Exit → St → Prop} (h : Wp P c σ Q) (hq : ∀ e σ, Q e σ → Q' e σ) : Wp P c σ Q' := fun W0 K0 g a w r =>
  wpIn_mono (h W0 K0 g a w r) (fun e a' w' ⟨g', σ', hr, hQ⟩ => ⟨g', σ', hr, hq e σ' hQ⟩)
theorem Wp.skip (h : Q .normal σ) : Wp P .skip σ Q := fun _ _ g _ _ r => wpIn_skip ⟨g, σ, r, h⟩
theorem Wp.ret (h : Q .ret σ) : Wp P .ret σ Q := fun _ _ g _ _ r => wpIn_ret ⟨g, σ, r, h⟩
theorem Wp.exit {id : Nat} (h : Q (.exit id) σ) : Wp P (.exit id) σ Q := fun _ _ g _ _ r => wpIn_exit ⟨g, σ, r, h⟩
theorem Wp.label {l : Nat} (h : Q .normal σ) : Wp P (.label l) σ Q := fun _ _ g _ _ r => wpIn_label ⟨g, σ, r, h⟩
theorem Wp.seq {x y : Code} (h : Wp P x σ (tQ0 (fun σ' => Wp P y σ' Q) Q)) : Wp P (.seq x y) σ Q := fun W0 K0 g a w r =>
  wpIn_seq (wpIn_mono (h W0 K0 g a w r) (fun e a' w' ⟨g', σ', hr, hQ⟩ => by
    cases e with
    | normal => exact hQ W0 K0 g' a' w' hr
    | _ => exact ⟨g', σ', hr, hQ⟩))
theorem Wp.block {id : Nat} {c : Code} (h : Wp P c σ (kQ0 id Q)) : Wp P (.block id c) σ Q := fun W0 K0 g a w r =>
  wpIn_block (wpIn_mono (h W0 K0 g a w r) (fun e a' w' ⟨g', σ', hr, hQ⟩ => by
    cases e with
    | exit i =>
      simp only [kQ0] at hQ
      simp only [Exit.inBlock]
      split
      · rename_i e; rw [if_pos e] at hQ; exact ⟨g', σ', hr, hQ⟩
      · rename_i e; rw [if_neg e] at hQ; exact ⟨g', σ', hr, hQ⟩
    | _ => exact ⟨g', σ', hr, hQ⟩))
theorem Wp.cond {c : Operand} {x y : Code} {t : Bool} (hc : evalS σ.env c = .c (.d (.val (.bool t)))) (h1 : t = true → Wp P x σ Q) (h2 : t = false → Wp P y σ Q) : Wp P (.cond c x y) σ Q := fun W0 K0 g a w r => by
  have hv := evalS_rep r c
  rw [hc] at hv
  have hv : Rep g.K (.val (.bool t)) (a.eval c) := hv
  have hv' : a.eval c = .bool t := by
    generalize a.eval c = v at hv
    cases hv; rfl
  exact wpIn_cond_split hv' (fun e => h1 e W0 K0 g a w r) (fun e => h2 e W0 K0 g a w r)
theorem Wp.region {id : Nat} {all : List Oper} (h : ∀ K : St → Prop, (∀ σ', Q .normal σ' → K σ') → aops P all all σ [] (fun σ' _ => K σ')) : Wp P (.region id all.toArray false) σ Q := fun W0 K0 g a w r =>
  wpIn_region_lit (aops_list (fun g' σ' tr a' w' hk hr => ⟨g', σ', hr, hk⟩) all g σ [] a w (h (fun σ' => Q .normal σ') (fun _ h => h)) r)
theorem Wp.drawn {id : Nat} {all : List Oper} (hm : P.follows .mixedOrders = true) (h : ∀ K : St → Prop, (∀ σ', Q .normal σ' → K σ') → aops P all all σ [] (fun σ' tr => okTr all tr = true ∧ K σ')) : Wp P (.region id all.toArray true) σ Q := fun W0 K0 g a w r =>
  wp_region_drawn hm (k := fun σ' _ => Q .normal σ') (fun g' σ' tr a' w' hk hr => ⟨g', σ', hr, hk⟩) (h (fun σ' => Q .normal σ') (fun _ h => h)) r
theorem Wp.seqRegion {id : Nat} {all : List Oper} {y : Code} (h : ∀ K : St → Prop, (∀ σ', Wp P y σ' Q → K σ') → aops P all all σ [] (fun σ' _ => K σ')) : Wp P (.seq (.region id all.toArray false) y) σ Q :=
  Wp.seq (Wp.region (fun K hK => h K hK))
theorem Wp.seqDrawn {id : Nat} {all : List Oper} {y : Code} (hm : P.follows .mixedOrders = true) (h : ∀ K : St → Prop, (∀ σ', Wp P y σ' Q → K σ') → aops P all all σ [] (fun σ' tr => okTr all tr = true ∧ K σ')) : Wp P (.seq (.region id all.toArray true) y) σ Q :=
  Wp.seq (Wp.drawn hm (fun K hK => h K hK))
theorem wpIn_loop_ix {F : Fence} {ι : Type} {c : Code} {Q : Exit → Act → World → Prop} {a : Act} {w : World} (I : ι → Act → World → Prop) (μ : ι → Nat) (i0 : ι) (h₀ : I i0 a w)
    (round : ∀ i a w, I i a w → c.wpIn F 0 P (Exit.then (fun a' w' => ∃ j, I j a' w' ∧ μ j < μ i) Q) a w) : (Code.loop c).wpIn F 0 P Q a w := by
  intro b k cs hro hb hr
  have key : ∀ n i a w, μ i = n → I i a w →
      ∃ e a' w', Q e a' w' ∧ ArrivesIn (Machine.fenced P F) P (lone (b.atR a (.code c :: .inLoop c :: k)) cs w) b k cs e a' w' := by
    intro n
    induction n using Nat.strongRecOn with
    | _ n ih =>
      intro i a w hn hI
      obtain ⟨e, a₁, w₁, hq, harr⟩ := round i a w hI b (.inLoop c :: k) cs hro hb hr
      cases e with
      | normal =>
        obtain ⟨j, hI₁, hlt⟩ := hq
        obtain ⟨e₂, a₂, w₂, hq₂, harr₂⟩ := ih (μ j) (hn ▸ hlt) j a₁ w₁ rfl hI₁
        exact ⟨e₂, a₂, w₂, hq₂, .of_steps (StepsIn.trans harr (.one (fenced_calm hb hr rfl) stepR_inLoop)) harr₂⟩
      | exit id => exact ⟨_, a₁, w₁, hq, .pass (x := .inLoop c) rfl (fun _ _ => .inl (by simp)) harr⟩
      | goto l => exact ⟨_, a₁, w₁, hq, .pass (x := .inLoop c) rfl (fun _ _ => .inl (by simp)) harr⟩
      | ret => exact ⟨_, a₁, w₁, hq, .pass (x := .inLoop c) rfl (fun _ _ => .inl (by simp)) harr⟩
      | panic ch => exact ⟨_, a₁, w₁, hq, .pass (x := .inLoop c) rfl (fun _ _ => .inl (by simp)) harr⟩
      | outgrown => exact ⟨_, a₁, w₁, hq, .pass (x := .inLoop c) rfl (fun _ _ => .inl (by simp)) harr⟩
  obtain ⟨e, a', w', hq, harr⟩ := key _ i0 a w rfl h₀
  exact ⟨e, a', w', hq, .of_steps (.one (fenced_calm hb hr rfl) stepR_loop) harr⟩
/-- A loop: the family S of the frames at its head. -/
theorem Wp.loop {c : Code} {ι : Type} (S : ι → St) (Pre : ι → Prop) (μ : ι → Nat) (i0 : ι) (h0 : Pre i0) (hw : Weak σ (S i0))
    (round : ∀ i, Pre i → Wp P c (S i) (tQ0 (fun σ' => ∃ j, Pre j ∧ μ j < μ i ∧ Weak σ' (S j)) Q)) : Wp P (.loop c) σ Q := by
  intro W0 K0 g a w r
  obtain ⟨g0, r0⟩ := hw W0 K0 g a w r
  refine wpIn_loop_ix (fun i a w => ∃ g, Pre i ∧ Rel W0 K0 g (S i) a w) μ i0 ⟨g0, h0, r0⟩ ?_
  rintro i a w ⟨g, hi, hr⟩
  refine wpIn_mono (round i hi W0 K0 g a w hr) (fun e a' w' ⟨g2, σ2, hr2, hQ⟩ => ?_)
  cases e with
  | normal =>
    obtain ⟨j, hj, hlt, hwk⟩ := hQ
    obtain ⟨g3, hr3⟩ := hwk W0 K0 g2 a' w' hr2
    exact ⟨j, ⟨g3, hj, hr3⟩, hlt⟩
  | _ => exact ⟨g2, σ2, hr2, hQ⟩
end
/-! functions -/
def retV (P : Program) (σ : St) : ResultVar → Option D
  | .tmp t => (σ.env t).toD σ.H
  | .cell a t => match aLd P t σ.H (σ.env a) with
    | some r => r.v.toD σ.H
    | none => none
def rD0 (P : Program) (σ : St) (rs : List ResultVar) : Option D :=
  match rs with
  | [r] => retV P σ r
  | rs => match mapO (retV P σ) rs with
    | some ds => some (.tup ds)
    | none => none
def bQ0 (P : Program) (rs : List ResultVar) (r : D) : Exit → St → Prop
  | .normal, σ => rD0 P σ rs = some r
  | .ret, σ => rD0 P σ rs = some r
  | _, _ => False
def resM (tmps : Array Value) : ResultVar → Sem Value
  | .tmp t => pure (tmps.getD t undef)
  | .cell b t => do loadVar t (← asAddr (tmps.getD b undef))
theorem results_eq (fn : Func) (tmps : Array Value) : results fn tmps = (do
    let vs ← fn.results.mapM (resM tmps)
    pure (if h : vs.size = 1 then vs[0] else .tuple vs)) := by
  unfold results
  have key : ∀ m m' : ResultVar → Sem Value, m = m' → (do
      let vs ← fn.results.mapM m
      pure (if h : vs.size = 1 then vs[0] else .tuple vs) : Sem Value) = (do
      let vs ← fn.results.mapM m'
      pure (if h : vs.size = 1 then vs[0] else .tuple vs)) := by rintro _ _ rfl; rfl
  exact key _ _ (funext fun x => by cases x <;> rfl)
theorem retV_sound {P : Program} {W0 : Fr} {K0 : Know} {g : G} {σ : St} {a : Act} {w : World} (hr : Rel W0 K0 g σ a w) {x : ResultVar} {d : D} (h : retV P σ x = some d) :
    ∃ v, (resM a.tmps x).run P w = .ok v w ∧ Rep g.K d v := by
  cases x with
  | tmp t => exact ⟨_, rfl, SV.toD_rep hr.mem (hr.env t) h⟩
  | cell b t =>
    simp only [retV] at h
    split at h
    · rename_i r hl
      obtain ⟨u, hrun, hv, _⟩ := load_run (P := P) hr.mem (hr.env b) hl
      refine ⟨u, ?_, SV.toD_rep hr.mem hv h⟩
      show Sem.run P (do loadVar t (← asAddr (a.tmps.getD b undef))) w = _
      generalize a.tmps.getD b undef = va at hrun
      unfold Instr.loadAt at hrun
      rw [Sem.run_bind] at hrun ⊢
      cases va with
      | pointer p => cases p with
        | some ad => exact hrun
        | none => cases hrun
      | _ => cases hrun
    · cases h
theorem results_sound {P : Program} {W0 : Fr} {K0 : Know} {g : G} {σ : St} {a : Act} {w : World} {fn : Func} (hr : Rel W0 K0 g σ a w) {d : D} (h : rD0 P σ fn.results.toList = some d) :
    ∃ v, (results fn a.tmps).run P w = .ok v w ∧ Rep g.K d v := by
  have hlist : ∀ (rs : List ResultVar) (ds : List D), mapO (retV P σ) rs = some ds → ∃ vs, (rs.mapM (resM a.tmps)).run P w = .ok vs w ∧ RepL g.K ds vs := by
    intro rs
    induction rs with
    | nil => intro ds hd; simp [mapO] at hd; subst hd; exact ⟨[], rfl, rfl, fun j x v hx => by simp at hx⟩
    | cons x rs ih =>
      intro ds hd
      simp only [mapO] at hd
      cases hx : retV P σ x with
      | none => rw [hx] at hd; cases hd
      | some y =>
        cases hm : mapO (retV P σ) rs with
        | none => rw [hx, hm] at hd; cases hd
        | some ys =>
          rw [hx, hm] at hd; cases hd
          obtain ⟨v, hv, hry⟩ := retV_sound hr hx
          obtain ⟨vs, hvs, hrs⟩ := ih ys hm
          refine ⟨v :: vs, ?_, by simp [hrs.1], fun j x v' hx hv' => ?_⟩
          · rw [List.mapM_cons, Sem.run_bind, hv]
            simp only [Result.andThen_ok, Sem.run_bind, hvs, Sem.run_pure]
          · cases j with
            | zero => simp at hx hv'; subst hx hv'; exact hry
            | succ j => exact hrs.2 j x v' (by simpa using hx) (by simpa using hv')
  have hrun : ∀ vs, (fn.results.toList.mapM (resM a.tmps)).run P w = .ok vs w →
      (results fn a.tmps).run P w = .ok (if h : vs.toArray.size = 1 then vs.toArray[0] else .tuple vs.toArray) w := by
    intro vs h
    rw [results_eq, Sem.run_bind, Array.mapM_eq_mapM_toList, Sem.run_map, h]
    rfl
  unfold rD0 at h
  split at h
  · rename_i r hrs
    obtain ⟨v, hv, hd⟩ := retV_sound hr h
    obtain ⟨vs, hvs, hL⟩ := hlist fn.results.toList [d] (by rw [hrs]; simp [mapO, h])
    refine ⟨_, hrun vs hvs, ?_⟩
    have hl : vs.length = 1 := by have := hL.1; simp at this; omega
    match vs, hl with
    | [u], _ => exact hL.2 0 d u rfl rfl
  · rename_i hns
    split at h
    · rename_i ds hds
      cases h
      obtain ⟨vs, hvs, hL⟩ := hlist fn.results.toList ds hds
      refine ⟨_, hrun vs hvs, ?_⟩
      have hl : ¬ vs.toArray.size = 1 := by
        have h1 := (mapO_get hds).1
        have h2 := hL.1
        intro e
        simp only [List.size_toArray] at e
        have h3 : fn.results.toList.length = 1 := by omega
        match hm : fn.results.toList, h3 with
        | [x], _ => exact hns x hm
      rw [dif_neg hl]
      exact .tup hL.1 hL.2
    · cases h
/-- Objects that are no cells aside, two memories are the same. -/
def AgO (H H' : Hp) : Prop := ∀ id, H' id = H id ∨ ∃ o o', H id = some (.obj o) ∧ H' id = some (.obj o')
theorem AgO.refl (H : Hp) : AgO H H := fun _ => .inl rfl
theorem AgO.toD {H H' : Hp} (h : AgO H H') (x : SV) : x.toD H' = x.toD H := by
  cases x with
  | c x =>
    cases x with
    | own id off =>
      simp only [SV.toD, CV.toD]
      rcases h id with e | ⟨o, o', e1, e2⟩
      · rw [e]
      · rw [e1, e2]
    | _ => rfl
  | agg cs => rfl
theorem AgO.load {H H' : Hp} (h : AgO H H') {P : Program} {t : TypeId} (x : SV) : aLd P t H' x = aLd P t H x := by
  cases x with
  | c x =>
    cases x with
    | own id off =>
      simp only [aLd]
      rcases h id with e | ⟨o, o', e1, e2⟩
      · rw [e]
      · rw [e1, e2]
    | d x => cases x <;> rfl
    | _ => rfl
  | agg cs => rfl
theorem AgO.retV {P : Program} {σ : St} {H' : Hp} {fx : Fx} (h : AgO σ.H H') (x : ResultVar) : retV P { σ with H := H', fx := fx } x = retV P σ x := by
  cases x with
  | tmp t => exact h.toD _
  | cell a t =>
    show (match aLd P t H' (σ.env a) with | some r => r.v.toD H' | none => none) = _
    simp only [Go.Proofs.YtepcpdionlfkhaaGreatDoor.retV]
    rw [h.load]
    cases aLd P t σ.H (σ.env a) with
    | none => rfl
    | some r => exact h.toD _
theorem AgO.retD {P : Program} {σ : St} {H' : Hp} {fx : Fx} (h : AgO σ.H H') (rs : List ResultVar) : rD0 P { σ with H := H', fx := fx } rs = rD0 P σ rs := by
  have e : Go.Proofs.YtepcpdionlfkhaaGreatDoor.retV P { σ with H := H', fx := fx } = Go.Proofs.YtepcpdionlfkhaaGreatDoor.retV P σ := funext fun x => h.retV x
  unfold Go.Proofs.YtepcpdionlfkhaaGreatDoor.rD0
  rw [e]
/-- A frame is left: the marks of its loops over functions are taken. -/
theorem leaves {P : Program} {F : Fr} {K0 : Know} {fn : Func} {R : Ending → World → Prop} : ∀ (dfs : List Nat) (ds : List Deferred) (g : G) (σ : St) (a : Act) (w : World), Rel F K0 g σ a w → σ.fx.dfs = dfs → a.defers = ds →
    (∀ g' H' a' w', Rel F K0 g' { σ with H := H', fx := { σ.fx with dfs := [] } } a' w' → AgO σ.H H' → a'.tmps = a.tmps → ∃ v, (results fn a.tmps).run P w' = .ok v w' ∧ R (.returned v) w') → LeavesInM Fence.wide 0 P fn a.tmps R ds .returning w
  | [], ds, g, σ, a, w, hr, hdf, hds, hfin => by
    have hd := hr.defers
    rw [hdf] at hd
    cases hq : a.defers with
    | cons d l => rw [hq] at hd; exact hd.elim
    | nil =>
      subst hds
      rw [hq]
      obtain ⟨v, h1, h2⟩ := hfin g σ.H a w ⟨hr.mem, hr.env, hr.size, by rw [hq]; trivial, hr.ln, hr.rd, List.nodup_nil, hr.lt⟩ (AgO.refl _) rfl
      exact ⟨v, h1, h2⟩
  | id :: dfs, ds, g, σ, a, w, hr, hdf, hds, hfin => by
    have hd := hr.defers
    rw [hdf] at hd
    have hnd := hr.nodup
    rw [hdf] at hnd
    cases hq : a.defers with
    | nil => rw [hq] at hd; exact hd.elim
    | cons d l =>
      subst hds
      rw [hq] at hd ⊢
      obtain ⟨⟨b, hb, rfl⟩, hH, hrest⟩ := hd
      obtain ⟨b', hb', hheap, _⟩ := hr.mem.holds id _ hH
      rw [hb] at hb'; cases hb'
      obtain ⟨hm, hle⟩ := hr.mem.setObj (.deferred none) hH hb
      have hne : ∀ i ∈ dfs, i ≠ id := fun i hi e => (List.nodup_cons.1 hnd).1 (e ▸ hi)
      have hrest' : DefsRel g (upd σ.H id (some (.obj (.deferred none)))) dfs l := by
        clear hdf hnd hq
        induction dfs generalizing l with
        | nil => cases l with
          | nil => trivial
          | cons _ _ => exact hrest.elim
        | cons i dfs ih => cases l with
          | nil => exact hrest.elim
          | cons e l =>
            obtain ⟨h1, h2, h3⟩ := hrest
            exact ⟨h1, by rw [upd_ne _ _ (hne i (by simp))]; exact h2, ih l h3 (fun j hj => hne j (by simp [hj]))⟩
      refine ⟨by simp, .inl ⟨b, _, rfl, run_takeDeferred hheap, ?_⟩⟩
      refine leaves dfs l g { σ with H := upd σ.H id (some (.obj (.deferred none))), fx := { σ.fx with dfs := dfs } } { a with defers := l } _ ⟨hm, fun t => (hr.env t).mono hle, hr.size, hrest', hr.ln, hr.rd, (List.nodup_cons.1 hnd).2, hr.lt⟩ rfl rfl ?_
      intro g' H' a' w' hr' hag ht
      refine hfin g' H' a' w' hr' (fun i => ?_) ht
      by_cases hi : i = id
      · subst hi
        rcases hag i with e | ⟨o, o', e1, e2⟩
        · exact .inr ⟨_, _, hH, e.trans (upd_same _ _ _)⟩
        · exact .inr ⟨_, _, hH, e2⟩
      · rcases hag i with e | ⟨o, o', e1, e2⟩
        · exact .inl (e.trans (upd_ne _ _ hi))
        · exact .inr ⟨o, o', (upd_ne _ _ hi).symm.trans e1, e2⟩
/-- The frame in which a body begins. -/
def entry (args : List D) (n : Nat) : St := ⟨fun t => match args[t]? with | some x => SV.ofD x | none => .c .any, fun _ => none, 0, n, 0⟩
theorem Fun.of_body {P : Program} {f : FuncId} {fn : Func} {c : Code} {args : List D} {r : D} {n : Nat} {rs : Array ResultVar} (hf : P.funcs[f]? = some fn) (hb : fn.body = some c) (hn : (fn.name == "runtime.NumGoroutine") = false) (hnt : fn.ntmps = n) (hrs : fn.results = rs) (hle : args.length ≤ n)
    (h : Wp P c (entry args n) (bQ0 P rs.toList r)) : Fun P f args r := by
  subst hnt hrs
  refine ⟨by unfold bodyOk; rw [hf]; simp only [hn, hb]; rfl, fun K w vs hB hk hL => ?_⟩
  have hl := hL.1
  refine callsIn_wide.1 (callsIn_of_wp_marks (F := Fence.wide) (n := 0) hf hb trivial (wpIn_mono (h (Fr.of w K) K ⟨K, fun _ => none, fun _ => 0⟩ _ w ⟨⟨Fr.of_below _ _, Fr.of_ext _ _, hk, ?_, ?_, ?_, ?_, ?_, hB, Fr.of_lent _ _⟩, ?_, ?_, trivial, rfl, rfl, List.nodup_nil, fun _ h => by cases h⟩) ?_))
  · intro id he hid; cases hid
  · intro id b hb; cases hb
  · intro id _; rfl
  · intro i j b hb; cases hb
  · intro i b hb; cases hb
  · intro t
    show RepS _ _ (match args[t]? with | some x => SV.ofD x | none => .c .any) _
    cases ht : args[t]? with
    | none => trivial
    | some x =>
      have hlt : t < vs.length := by have := (List.getElem?_eq_some_iff.1 ht).1; omega
      have hv : (vs.toArray ++ Array.replicate (fn.ntmps - vs.toArray.size) undef).getD t undef = vs[t] := by
        rw [Array.getD_eq_getD_getElem?, Array.getElem?_append_left (by simpa using hlt)]
        simp [hlt]
      rw [hv]
      exact ofD_rep (hL.2 t x _ ht (List.getElem?_eq_getElem hlt)) _ _ rfl
  · show _ = fn.ntmps
    simp; omega
  · rintro e a' w' ⟨g', σ', hr, hQ⟩
    have fin : rD0 P σ' fn.results.toList = some r → LeavesInM Fence.wide 0 P fn a'.tmps (fun e w' => ∃ v K', e = .returned v ∧ Ext K K' w.heap.size ∧ KW K' w' ∧ Rep K' r v ∧ Below w.heap.size w w') a'.defers .returning w' := by
      intro hret
      refine leaves _ _ g' σ' a' w' hr rfl rfl (fun g2 H2 a2 w2 hr2 hag ht => ?_)
      obtain ⟨v, hv, hd⟩ := results_sound hr2 (fn := fn) (by rw [hag.retD]; exact hret)
      rw [ht] at hv
      exact ⟨v, hv, v, g2.K, rfl, hr2.mem.ext.of, hr2.mem.kw, hd, hr2.mem.below.of⟩
    cases e with
    | normal => exact fin hQ
    | ret => exact fin hQ
    | _ => exact hQ.elim
def retA (σ : St) (rs : List ResultVar) (e sz : Nat) (xs : List (List D)) : Prop := match rs with
  | [.tmp t] => (∃ τ, σ.env t = .c (.app τ sz xs) ∧ σ.H τ = some (.row e sz xs.length)) ∨ σ.env t = .c (.full sz xs) ∨ (σ.env t = .c (.d (.val (.slice none 0 0))) ∧ xs = [])
  | _ => False
theorem AgO.retA {σ : St} {H' : Hp} {fx : Fx} (h : AgO σ.H H') {rs : List ResultVar} {e sz : Nat} {xs : List (List D)} (hr : Go.Proofs.YtepcpdionlfkhaaGreatDoor.retA σ rs e sz xs) : Go.Proofs.YtepcpdionlfkhaaGreatDoor.retA { σ with H := H', fx := fx } rs e sz xs := by
  unfold Go.Proofs.YtepcpdionlfkhaaGreatDoor.retA at *
  split at hr
  · rcases hr with ⟨τ, h1, h2⟩ | h1 | h1
    · refine .inl ⟨τ, h1, ?_⟩
      rcases h τ with e | ⟨o, o', e1, e2⟩
      · exact e.trans h2
      · rw [h2] at e1; cases e1
    · exact .inr (.inl h1)
    · exact .inr (.inr h1)
  · exact hr.elim
def bodyQA (rs : List ResultVar) (e sz : Nat) (xs : List (List D)) : Exit → St → Prop
  | .normal, σ => retA σ rs e sz xs
  | .ret, σ => retA σ rs e sz xs
  | _, _ => False
theorem FunA.of_body {P : Program} {f : FuncId} {fn : Func} {c : Code} {args : List D} {e sz : Nat} {xs : List (List D)} {n : Nat} {rs : Array ResultVar} (hf : P.funcs[f]? = some fn) (hb : fn.body = some c) (hn : (fn.name == "runtime.NumGoroutine") = false) (hnt : fn.ntmps = n) (hrs : fn.results = rs) (hle : args.length ≤ n)
    (h : Wp P c (entry args n) (bodyQA rs.toList e sz xs)) : FunA P f args e sz xs := by
  subst hnt hrs
  refine ⟨by unfold bodyOk; rw [hf]; simp only [hn, hb]; rfl, fun K w vs hB hk hL => ?_⟩
  have hl := hL.1
  refine callsIn_wide.1 (callsIn_of_wp_marks (F := Fence.wide) (n := 0) hf hb trivial (wpIn_mono (h (Fr.of w K) K ⟨K, fun _ => none, fun _ => 0⟩ _ w ⟨⟨Fr.of_below _ _, Fr.of_ext _ _, hk, ?_, ?_, ?_, ?_, ?_, hB, Fr.of_lent _ _⟩, ?_, ?_, trivial, rfl, rfl, List.nodup_nil, fun _ h => by cases h⟩) ?_))
  · intro id he hid; cases hid
  · intro id b hb; cases hb
  · intro id _; rfl
  · intro i j b hb; cases hb
  · intro i b hb; cases hb
  · intro t
    show RepS _ _ (match args[t]? with | some x => SV.ofD x | none => .c .any) _
    cases ht : args[t]? with
    | none => trivial
    | some x =>
      have hlt : t < vs.length := by have := (List.getElem?_eq_some_iff.1 ht).1; omega
      have hv : (vs.toArray ++ Array.replicate (fn.ntmps - vs.toArray.size) undef).getD t undef = vs[t] := by
        rw [Array.getD_eq_getD_getElem?, Array.getElem?_append_left (by simpa using hlt)]
        simp [hlt]
      rw [hv]
      exact ofD_rep (hL.2 t x _ ht (List.getElem?_eq_getElem hlt)) _ _ rfl
  · show _ = fn.ntmps
    simp; omega
  · rintro ex a' w' ⟨g', σ', hr, hQ⟩
    have fin : retA σ' fn.results.toList e sz xs → LeavesInM Fence.wide 0 P fn a'.tmps (fun en w' => ∃ v K', en = .returned v ∧ Ext K K' w.heap.size ∧ KW K' w' ∧ Rep K' (.lst sz xs) v ∧ Appable K' w.heap.size w' e sz xs.length v ∧ Below w.heap.size w w') a'.defers .returning w' := by
      intro hret0
      refine leaves _ _ g' σ' a' w' hr rfl rfl (fun g2 H2 a2 w2 hr2 hag ht => ?_)
      have hret := hag.retA (fx := { σ'.fx with dfs := [] }) hret0
      generalize hσ2 : ({ σ' with H := H2, fx := { σ'.fx with dfs := [] } } : St) = σ2 at hr2 hret
      have hfin2 : ∃ v, (results fn a2.tmps).run P w2 = .ok v w2 ∧ ∃ v_1 K', Ending.returned v = .returned v_1 ∧ Ext K K' w.heap.size ∧ KW K' w2 ∧ Rep K' (.lst sz xs) v_1 ∧ Appable K' w.heap.size w2 e sz xs.length v_1 ∧ Below w.heap.size w w2 := by
        unfold retA at hret
        split at hret
        · rename_i t hrs
          have hres : ∀ d, (σ2.env t).toD σ2.H = some d → ∃ v, (results fn a2.tmps).run P w2 = .ok v w2 ∧ Rep g2.K d v := fun d hd => results_sound hr2 (by rw [hrs]; exact hd)
          have hval : ∀ v, (results fn a2.tmps).run P w2 = .ok v w2 → v = a2.tmps.getD t undef := fun v hv => by
            have hrs' : fn.results = #[.tmp t] := by apply Array.ext'; simpa using hrs
            unfold results at hv
            rw [hrs'] at hv
            simp at hv
            rw [← hv]; simp
          have henv := hr2.env t
          rcases hret with ⟨τ, h1, h2⟩ | h1 | ⟨h1, rfl⟩
          · obtain ⟨v, hv, hd⟩ := hres (.lst sz xs) (by rw [h1]; rfl)
            rw [h1, ← hval v hv] at henv
            obtain ⟨_, e', n', hrow, _, hfl⟩ := henv
            rw [h2] at hrow; cases hrow
            refine ⟨v, hv, v, g2.K, rfl, hr2.mem.ext.of, hr2.mem.kw, hd, ?_, hr2.mem.below.of⟩
            rcases hfl rfl with h | ⟨b, hb, hvb⟩
            · exact .inl h
            · obtain ⟨cur, q1, q2, q3, q4⟩ := hr2.mem.holds τ _ h2 b hb
              exact .inr ⟨b, _, cur, hvb, Fr.of_mine (hr2.mem.base τ b hb), q1, q2, q3, q4⟩
          · obtain ⟨v, hv, hd⟩ := hres (.lst sz xs) (by rw [h1]; rfl)
            rw [h1, ← hval v hv] at henv
            exact ⟨v, hv, v, g2.K, rfl, hr2.mem.ext.of, hr2.mem.kw, hd, .inl henv.2, hr2.mem.below.of⟩
          · obtain ⟨v, hv, hd⟩ := hres (.val (.slice none 0 0)) (by rw [h1]; rfl)
            cases hd
            exact ⟨_, hv, _, g2.K, rfl, hr2.mem.ext.of, hr2.mem.kw, rep_nil _ _, .inl ⟨none, rfl⟩, hr2.mem.below.of⟩
        · exact hret.elim
      rw [ht] at hfin2
      exact hfin2
    cases ex with
    | normal => exact fin hQ
    | ret => exact fin hQ
    | _ => exact hQ.elim
end Go.Proofs.YtepcpdionlfkhaaGreatDoor
