/- Parse is the search in the list of all names, for every name; what lay in memory stays. -/
import Derived.Test.YtdaijofmglpmdaaDoorNamesB
import Derived.Test.YtdaijofmglpmdaaDoorRegEq
namespace Go.Proofs.YtdaijofmglpmdaaDoor
open Go.RowKit Go.Shelf
attribute [local go_sem] Oper.semAt_some
set_option maxRecDepth 100000
set_option linter.unusedVariables false
theorem LiesAt.own {β : Type} (B : Nat) (cs : β → Array Value) (t : TypeId) : Own (fun s W => LiesAt W B (cs s) t) := fun s X Y row hs hg hrow =>
  LiesAt.kept hs hg (fun e' => by obtain ⟨o, ho, hc⟩ := hrow B e'; rw [show X.heap[B]? = _ from hs] at ho; cases ho; cases hc)
def parseE (nm : List UInt8) : Option NameE := allE.find? fun x => x.1 == nm
def parseV (nm : List UInt8) : Value := match parseE nm with
  | some x => .tuple #[.int .i8 x.2.1, .int .i8 x.2.2.1, .int .i64 x.2.2.2.1, .int .i64 x.2.2.2.2, .bool true]
  | none => .tuple #[.int .i8 0, .int .i8 0, .int .i64 0, .int .i64 0, .bool false]
theorem meanings (w : World) : Calls Tryd.prog 25 #[] w fun e w' => e = .returned (.func (.func 30) #[] #[]) ∧ w = w' := by
  go_enter Tryd.func25, Tryd.ntmps25
  go_wp2
  go_ret
  exact ⟨rfl, rfl⟩
structure Held (w W : World) (nm : List UInt8) (a b c d : Int) (ok : Bool) : Prop where
  nm : LiesAt W w.heap.size #[S nm] 9
  r1 : LiesAt W (w.heap.size + 1) #[.int .i8 a] 22
  r2 : LiesAt W (w.heap.size + 1 + 1) #[.int .i8 b] 22
  r3 : LiesAt W (w.heap.size + 1 + 1 + 1) #[.int .i64 c] 3
  r4 : LiesAt W (w.heap.size + 1 + 1 + 1 + 1) #[.int .i64 d] 3
  r5 : LiesAt W (w.heap.size + 1 + 1 + 1 + 1 + 1) #[.bool ok] 4
  below : Below w.heap.size w W
theorem Held.grown {w W W' : World} {nm : List UInt8} {a b c d : Int} {ok : Bool} {row : Option Nat} (h : Held w W nm a b c d ok) (hg : W.grownBy W' row) (hne : ∀ k, row = some k → w.heap.size + 1 + 1 + 1 + 1 + 1 < k) : Held w W' nm a b c d ok :=
  ⟨h.nm.kept hg (fun e => by have := hne _ e; omega), h.r1.kept hg (fun e => by have := hne _ e; omega), h.r2.kept hg (fun e => by have := hne _ e; omega), h.r3.kept hg (fun e => by have := hne _ e; omega),
   h.r4.kept hg (fun e => by have := hne _ e; omega), h.r5.kept hg (fun e => by have := hne _ e; omega), h.below.grown hg h.below.size (fun k e => by have := hne _ e; omega)⟩
theorem held_new (w : World) (nm : List UInt8) : Held w ((((((w.alloc (Obj.cells #[S nm] 9)).alloc (Obj.cells #[Value.int IntKind.i8 0] 22)).alloc (Obj.cells #[Value.int IntKind.i8 0] 22)).alloc (Obj.cells #[Value.int IntKind.i64 0] 3)).alloc (Obj.cells #[Value.int IntKind.i64 0] 3)).alloc (Obj.cells #[Value.bool false] 4)) nm 0 0 0 0 false := by
  have hn : ∀ (W : World) (n : Nat) (cs : Array Value) (t : TypeId), W.heap.size = n → LiesAt (W.alloc (.cells cs t)) n cs t := fun W n cs t e => by subst e; exact World.alloc_heap_new W _
  refine ⟨?_, ?_, ?_, ?_, ?_, ?_, ?_⟩
  · exact ((((((hn w _ _ _ rfl).alloc _).alloc _).alloc _).alloc _).alloc _)
  · exact (((((hn _ _ _ _ (by simp)).alloc _).alloc _).alloc _).alloc _)
  · exact ((((hn _ _ _ _ (by simp)).alloc _).alloc _).alloc _)
  · exact (((hn _ _ _ _ (by simp)).alloc _).alloc _)
  · exact ((hn _ _ _ _ (by simp)).alloc _)
  · exact hn _ _ _ _ (by simp)
  · exact ((((((Below.refl _ _).alloc (Nat.le_refl _) _).alloc (by simp) _).alloc (by simp; omega) _).alloc (by simp; omega) _).alloc (by simp; omega) _).alloc (by simp; omega) _
def W1 (W : World) (n : Nat) (x : NameE) : World := W.drew.setCell ⟨n + 1, 0, none⟩ (.int .i8 x.2.1)
def W2 (W : World) (n : Nat) (x : NameE) : World := (W1 W n x).setCell ⟨n + 1 + 1, 0, none⟩ (.int .i8 x.2.2.1)
def W3 (W : World) (n : Nat) (x : NameE) : World := (W2 W n x).setCell ⟨n + 1 + 1 + 1, 0, none⟩ (.int .i64 x.2.2.2.1)
def W4 (W : World) (n : Nat) (x : NameE) : World := (W3 W n x).setCell ⟨n + 1 + 1 + 1 + 1, 0, none⟩ (.int .i64 x.2.2.2.2)
def W5 (W : World) (n : Nat) (x : NameE) : World := (W4 W n x).setCell ⟨n + 1 + 1 + 1 + 1 + 1, 0, none⟩ (.bool true)
theorem cell_set_other (W : World) (p q : Addr) (v : Value) (h : q.block ≠ p.block) : (W.setCell p v).cell? q = W.cell? q ∧ (W.setCell p v).frozen? q = W.frozen? q :=
  ⟨World.cell?_of_block (Below.heap_setCell W p v q.block h), World.frozen?_of_block (Below.heap_setCell W p v q.block h)⟩
theorem w1_other (W : World) (n : Nat) (x : NameE) (q : Addr) (h : n + 1 < q.block) : (W1 W n x).cell? q = W.cell? q ∧ (W1 W n x).frozen? q = W.frozen? q := by
  have h1 := cell_set_other W.drew ⟨n + 1, 0, none⟩ q (.int .i8 x.2.1) (by show q.block ≠ n + 1; omega)
  exact h1
theorem w2_other (W : World) (n : Nat) (x : NameE) (q : Addr) (h : n + 1 + 1 < q.block) : (W2 W n x).cell? q = W.cell? q ∧ (W2 W n x).frozen? q = W.frozen? q := by
  have h1 := cell_set_other (W1 W n x) ⟨n + 1 + 1, 0, none⟩ q (.int .i8 x.2.2.1) (by show q.block ≠ n + 1 + 1; omega)
  have h2 := w1_other W n x q (by omega)
  exact ⟨h1.1.trans h2.1, h1.2.trans h2.2⟩
theorem w3_other (W : World) (n : Nat) (x : NameE) (q : Addr) (h : n + 1 + 1 + 1 < q.block) : (W3 W n x).cell? q = W.cell? q ∧ (W3 W n x).frozen? q = W.frozen? q := by
  have h1 := cell_set_other (W2 W n x) ⟨n + 1 + 1 + 1, 0, none⟩ q (.int .i64 x.2.2.2.1) (by show q.block ≠ n + 1 + 1 + 1; omega)
  have h2 := w2_other W n x q (by omega)
  exact ⟨h1.1.trans h2.1, h1.2.trans h2.2⟩
theorem w4_other (W : World) (n : Nat) (x : NameE) (q : Addr) (h : n + 1 + 1 + 1 + 1 < q.block) : (W4 W n x).cell? q = W.cell? q ∧ (W4 W n x).frozen? q = W.frozen? q := by
  have h1 := cell_set_other (W3 W n x) ⟨n + 1 + 1 + 1 + 1, 0, none⟩ q (.int .i64 x.2.2.2.2) (by show q.block ≠ n + 1 + 1 + 1 + 1; omega)
  have h2 := w3_other W n x q (by omega)
  exact ⟨h1.1.trans h2.1, h1.2.trans h2.2⟩
theorem w5_other (W : World) (n : Nat) (x : NameE) (q : Addr) (h : n + 1 + 1 + 1 + 1 + 1 < q.block) : (W5 W n x).cell? q = W.cell? q ∧ (W5 W n x).frozen? q = W.frozen? q := by
  have h1 := cell_set_other (W4 W n x) ⟨n + 1 + 1 + 1 + 1 + 1, 0, none⟩ q (.bool true) (by show q.block ≠ n + 1 + 1 + 1 + 1 + 1; omega)
  have h2 := w4_other W n x q (by omega)
  exact ⟨h1.1.trans h2.1, h1.2.trans h2.2⟩
def WdP (W : World) (n : Nat) (x : NameE) (k : Nat) : World := match k with | 0 => W.drew | 1 => W1 W n x | 2 => W2 W n x | 3 => W3 W n x | 4 => W4 W n x | _ => W5 W n x
theorem wd_cell (W : World) (n : Nat) (x : NameE) {Bx : Nat} (hBx : n + 1 + 1 + 1 + 1 + 1 < Bx) (k : Nat) (hk : k ≤ 5) (j : Nat) :
    (WdP W n x k).cell? ⟨Bx, j, none⟩ = W.cell? ⟨Bx, j, none⟩ := by
  obtain rfl | rfl | rfl | rfl | rfl | rfl : k = 0 ∨ k = 1 ∨ k = 2 ∨ k = 3 ∨ k = 4 ∨ k = 5 := by omega
  · rfl
  · exact (w1_other W n x _ (by show n + 1 < Bx; omega)).1
  · exact (w2_other W n x _ (by show n + 1 + 1 < Bx; omega)).1
  · exact (w3_other W n x _ (by show n + 1 + 1 + 1 < Bx; omega)).1
  · exact (w4_other W n x _ (by show n + 1 + 1 + 1 + 1 < Bx; omega)).1
  · exact (w5_other W n x _ (by show n + 1 + 1 + 1 + 1 + 1 < Bx; omega)).1
theorem ld8 (p : Addr) (v : Value) (w : World) (h : w.cell? p = some v) : Sem.run Tryd.prog (do pure (Next.value (← Instr.loadAt 22 (.pointer (some p))))) w = .ok (.value v) w := by
  go_simp
theorem ld64 (p : Addr) (v : Value) (w : World) (h : w.cell? p = some v) : Sem.run Tryd.prog (do pure (Next.value (← Instr.loadAt 3 (.pointer (some p))))) w = .ok (.value v) w := by
  go_simp
theorem st8 (p : Addr) (i : Int) (old : Value) (w : World) (h : w.cell? p = some old) (hf : w.frozen? p = false) : Sem.run Tryd.prog (do Instr.storeAt 22 (.pointer (some p)) (.int .i8 i); pure Next.skip) w = .ok .skip (w.setCell p (.int .i8 i)) := by
  go_simp
theorem st64 (p : Addr) (i : Int) (old : Value) (w : World) (h : w.cell? p = some old) (hf : w.frozen? p = false) : Sem.run Tryd.prog (do Instr.storeAt 3 (.pointer (some p)) (.int .i64 i); pure Next.skip) w = .ok .skip (w.setCell p (.int .i64 i)) := by
  go_simp
theorem stB (p : Addr) (i : Bool) (old : Value) (w : World) (h : w.cell? p = some old) (hf : w.frozen? p = false) : Sem.run Tryd.prog (do Instr.storeAt 4 (.pointer (some p)) (.bool i); pure Next.skip) w = .ok .skip (w.setCell p (.bool i)) := by
  go_simp
theorem parseE_pre {nm : List UInt8} {pre : List NameE} (hp : pre <+: allE) (y : NameE) (ys : List NameE) (he : pre = ys ++ [y]) (h1 : ∀ x ∈ ys, x.1 ≠ nm) (h2 : y.1 = nm) : parseE nm = some y := by
  obtain ⟨t, ht⟩ := hp
  unfold parseE
  rw [← ht, he, List.append_assoc, List.find?_append, List.find?_eq_none.2 (by intro x hx; simpa using h1 x hx)]
  simp [h2]
theorem parseE_none {nm : List UInt8} (h1 : ∀ x ∈ allE, x.1 ≠ nm) : parseE nm = none := by
  unfold parseE; rw [List.find?_eq_none]; intro x hx; simpa using h1 x hx
def ParseI (w : World) (nm : List UInt8) (pre : List NameE) (W : World) : Prop := (∀ x ∈ pre, x.1 ≠ nm) ∧ Held w W nm 0 0 0 0 false
def ParseIx (w : World) (nm : List UInt8) (c : Code) (pre : List NameE) (W : World) : Prop := c = .ret ∧ ∃ ys y, pre = ys ++ [y] ∧ (∀ x ∈ ys, x.1 ≠ nm) ∧ y.1 = nm ∧ Held w W nm y.2.1 y.2.2.1 y.2.2.2.1 y.2.2.2.2 true
theorem keeps5 (W : World) (n : Nat) (x : NameE) : KeepsOthers W (W5 W n x) :=
  (((((KeepsOthers.drew W).trans (KeepsOthers.setCell _ _ _)).trans (KeepsOthers.setCell _ _ _)).trans (KeepsOthers.setCell _ _ _)).trans (KeepsOthers.setCell _ _ _)).trans (KeepsOthers.setCell _ _ _)
theorem held5g {w W : World} {nm : List UInt8} (h : Held w W nm 0 0 0 0 false) (a b c d : Int) (ok : Bool) : Held w (((((W.setCell { block := w.heap.size + 1, off := 0 } (Value.int IntKind.i8 a)).setCell { block := w.heap.size + 1 + 1, off := 0 } (Value.int IntKind.i8 b)).setCell { block := w.heap.size + 1 + 1 + 1, off := 0 } (Value.int IntKind.i64 c)).setCell { block := w.heap.size + 1 + 1 + 1 + 1, off := 0 } (Value.int IntKind.i64 d)).setCell { block := w.heap.size + 1 + 1 + 1 + 1 + 1, off := 0 } (Value.bool ok)) nm a b c d ok := by
  have o : ∀ {V : World} {B : Nat} {v : Value} {t : TypeId} (k : Nat) (u : Value), LiesAt V B #[v] t → B ≠ k → LiesAt (V.setCell ⟨k, 0, none⟩ u) B #[v] t := fun k u hl hne => Boxed.other hl hne u
  have s : ∀ {V : World} {B : Nat} {v : Value} {t : TypeId} (u : Value), LiesAt V B #[v] t → LiesAt (V.setCell ⟨B, 0, none⟩ u) B #[u] t := fun u hl => Boxed.set u hl
  refine ⟨?_, ?_, ?_, ?_, ?_, ?_, ?_⟩
  · exact o _ _ (o _ _ (o _ _ (o _ _ (o (V := W) _ _ h.nm (by omega)) (by omega)) (by omega)) (by omega)) (by omega)
  · exact o _ _ (o _ _ (o _ _ (o _ _ (s (V := W) _ h.r1) (by omega)) (by omega)) (by omega)) (by omega)
  · exact o _ _ (o _ _ (o _ _ (s _ (o (V := W) _ _ h.r2 (by omega))) (by omega)) (by omega)) (by omega)
  · exact o _ _ (o _ _ (s _ (o _ _ (o (V := W) _ _ h.r3 (by omega)) (by omega))) (by omega)) (by omega)
  · exact o _ _ (s _ (o _ _ (o _ _ (o (V := W) _ _ h.r4 (by omega)) (by omega)) (by omega))) (by omega)
  · exact s _ (o _ _ (o _ _ (o _ _ (o (V := W) _ _ h.r5 (by omega)) (by omega)) (by omega)) (by omega))
  · exact (((((h.below).setCell (p := ⟨w.heap.size + 1, 0, none⟩) (by show w.heap.size ≤ w.heap.size + 1; omega) _).setCell (p := ⟨w.heap.size + 1 + 1, 0, none⟩) (by show w.heap.size ≤ w.heap.size + 1 + 1; omega) _).setCell (p := ⟨w.heap.size + 1 + 1 + 1, 0, none⟩) (by show w.heap.size ≤ w.heap.size + 1 + 1 + 1; omega) _).setCell (p := ⟨w.heap.size + 1 + 1 + 1 + 1, 0, none⟩) (by show w.heap.size ≤ w.heap.size + 1 + 1 + 1 + 1; omega) _).setCell (p := ⟨w.heap.size + 1 + 1 + 1 + 1 + 1, 0, none⟩) (by show w.heap.size ≤ w.heap.size + 1 + 1 + 1 + 1 + 1; omega) _
theorem held5 {w W : World} {nm : List UInt8} (h : Held w W nm 0 0 0 0 false) (x : NameE) : Held w (W5 W w.heap.size x) nm x.2.1 x.2.2.1 x.2.2.2.1 x.2.2.2.2 true :=
  held5g (W := W.drew) ⟨h.nm, h.r1, h.r2, h.r3, h.r4, h.r5, h.below.drew⟩ _ _ _ _ _
theorem held_tuple {w W : World} {nm : List UInt8} {a b c d : Int} {ok : Bool} (h : Held w W nm a b c d ok) (r0 r1 : Value) (rest : List Value) :
    (results Tryd.f8 (r0 :: r1 :: Value.pointer (some { block := w.heap.size + 1, off := 0 }) ::
                Value.pointer (some { block := w.heap.size + 1 + 1, off := 0 }) ::
                Value.pointer (some { block := w.heap.size + 1 + 1 + 1, off := 0 }) ::
                Value.pointer (some { block := w.heap.size + 1 + 1 + 1 + 1, off := 0 }) ::
                Value.pointer (some { block := w.heap.size + 1 + 1 + 1 + 1 + 1, off := 0 }) :: rest).toArray).run Tryd.prog W = .ok (.tuple #[.int .i8 a, .int .i8 b, .int .i64 c, .int .i64 d, .bool ok]) W := by
  have c1 : W.cell? ⟨w.heap.size + 1, 0, none⟩ = some (.int .i8 a) := h.r1.cell 0
  have c2 : W.cell? ⟨w.heap.size + 1 + 1, 0, none⟩ = some (.int .i8 b) := h.r2.cell 0
  have c3 : W.cell? ⟨w.heap.size + 1 + 1 + 1, 0, none⟩ = some (.int .i64 c) := h.r3.cell 0
  have c4 : W.cell? ⟨w.heap.size + 1 + 1 + 1 + 1, 0, none⟩ = some (.int .i64 d) := h.r4.cell 0
  have c5 : W.cell? ⟨w.heap.size + 1 + 1 + 1 + 1 + 1, 0, none⟩ = some (.bool ok) := h.r5.cell 0
  simp [results, Tryd.f8, go_sem, c1, c2, c3, c4, c5]
set_option maxHeartbeats 4000000 in
theorem parse (nm : List UInt8) (w : World) : Calls Tryd.prog 8 #[S nm] w fun e w' => e = .returned (parseV nm) ∧ Below w.heap.size w w' := by
  refine (callsIn_wide (n := 11)).1 ?_
  refine callsIn_of_wp_marks Tryd.func8 rfl trivial ?_ rfl
  simp only [Tryd.ntmps8, List.size_toArray, List.length_cons, List.length_nil, Nat.reduceAdd, Nat.reduceSub, Array.replicate_succ, Array.replicate_zero, List.push_toArray, List.append_toArray, List.nil_append, List.cons_append]
  gi_wp2_with (refine ⟨trivial, ?_⟩; gi_at_call 25; refine (callsIn_wide.2 (meanings _)).mono ?_; rintro e w' ⟨rfl, rfl⟩)
  obtain ⟨W0, hW0⟩ : ∃ W0, (((((w.alloc (Obj.cells #[S nm] 9)).alloc (Obj.cells #[Value.int IntKind.i8 0] 22)).alloc (Obj.cells #[Value.int IntKind.i8 0] 22)).alloc (Obj.cells #[Value.int IntKind.i64 0] 3)).alloc (Obj.cells #[Value.int IntKind.i64 0] 3)).alloc (Obj.cells #[Value.bool false] 4) = W0 := ⟨_, rfl⟩
  rw [hW0]
  have hh := held_new w nm
  rw [hW0] at hh
  have hz : W0.heap.size = w.heap.size + 1 + 1 + 1 + 1 + 1 + 1 := by rw [← hW0]; simp
  clear hW0
  have HZ := Lib.hid hz
  clear hz
  refine wpIn_rangeFunc_ownH (α := NameE) (encs := encE) (Kp := KeepsWalks) (S := fun xs => xs = allE) (Sp := fun pre => pre <+: allE) (N := 32) (w0 := W0) rfl (by omega) (gf := 30) (lb := #[]) rfl trivial (enters_of Tryd.func30 (by kernel_rfl) rfl) (meanings_stops W0) walksK_t walksK_b (Below.refl _ _) (fun _ => rfl)
    (ParseI w nm) (ParseIx w nm)
    (fun s A B row hs hg hr => ⟨hs.1, hs.2.grown hg (fun k e => by have := (hr k e).1; rw [HZ.out] at this; omega)⟩)
    (fun c s A B row hs hg hr => by
      obtain ⟨h1, ys, y, h2, h3, h4, h5⟩ := hs
      exact ⟨h1, ys, y, h2, h3, h4, h5.grown hg (fun k e => by have := (hr k e).1; rw [HZ.out] at this; omega)⟩)
    ⟨by simp, hh⟩
    (fun x a' W => ∃ Bx, w.heap.size + 1 + 1 + 1 + 1 + 1 < Bx ∧ LiesAt W Bx #[.int .i8 x.2.1, .int .i8 x.2.2.1, .int .i64 x.2.2.2.1, .int .i64 x.2.2.2.2] 48 ∧ a' = { tmps := #[S nm, Value.pointer (some { block := w.heap.size, off := 0 }),
                Value.pointer (some { block := w.heap.size + 1, off := 0 }),
                Value.pointer (some { block := w.heap.size + 1 + 1, off := 0 }),
                Value.pointer (some { block := w.heap.size + 1 + 1 + 1, off := 0 }),
                Value.pointer (some { block := w.heap.size + 1 + 1 + 1 + 1, off := 0 }),
                Value.pointer (some { block := w.heap.size + 1 + 1 + 1 + 1 + 1, off := 0 }), S x.1, .pointer (some ⟨Bx, 0, none⟩), .func (.func 30) #[] #[], S x.1, .agg #[.int .i8 x.2.1, .int .i8 x.2.2.1, .int .i64 x.2.2.2.1, .int .i64 x.2.2.2.2], undef, undef, undef, undef, undef, undef, undef, undef, undef, undef, undef], defers := [] })
    (fun x a' s A B row hs hg hr => by
      obtain ⟨Bx, h1, h2, h3⟩ := hs
      exact ⟨Bx, h1, LiesAt.own Bx (fun _ : Unit => #[.int .i8 x.2.1, .int .i8 x.2.2.1, .int .i64 x.2.2.2.1, .int .i64 x.2.2.2.2]) 48 () A B row h2 hg (fun r e => (hr r e).2), h3⟩)
    ?assign ?body ?done ?stop
  case assign =>
    rintro l pre x W K ⟨hp, hh1⟩ hK
    gi_wp2
    exact hK _ _ ((KeepsOthers.alloc _ _).from _) (KeepsOthers.alloc _ _).walks ⟨hp, hh1.grown (World.grownBy_alloc W _ none) (fun k e => by cases e)⟩ ⟨W.heap.size, hh1.r5.lt, World.alloc_heap_new W _, rfl⟩
  case body =>
    rintro l pre x a' W hl ⟨r, hr⟩ ⟨hp, hh1⟩ ⟨Bx, hBx, hbX, rfl⟩ hlt
    have c0 : W.cell? ⟨w.heap.size, 0, none⟩ = some (S nm) := hh1.nm.cell 0
    have d0 : W.cell? ⟨Bx, 0, none⟩ = some (.int .i8 x.2.1) := hbX.cell 0
    have d1 : W.cell? ⟨Bx, 1, none⟩ = some (.int .i8 x.2.2.1) := hbX.cell 1
    have d2 : W.cell? ⟨Bx, 2, none⟩ = some (.int .i64 x.2.2.2.1) := hbX.cell 2
    have d3 : W.cell? ⟨Bx, 3, none⟩ = some (.int .i64 x.2.2.2.2) := hbX.cell 3
    have e1 : W.cell? ⟨w.heap.size + 1, 0, none⟩ = some (.int .i8 0) := hh1.r1.cell 0
    have f1 := hh1.r1.frozen 0
    have e2 : W.cell? ⟨w.heap.size + 1 + 1, 0, none⟩ = some (.int .i8 0) := hh1.r2.cell 0
    have f2 := hh1.r2.frozen 0
    have e3 : W.cell? ⟨w.heap.size + 1 + 1 + 1, 0, none⟩ = some (.int .i64 0) := hh1.r3.cell 0
    have f3 := hh1.r3.frozen 0
    have e4 : W.cell? ⟨w.heap.size + 1 + 1 + 1 + 1, 0, none⟩ = some (.int .i64 0) := hh1.r4.cell 0
    have f4 := hh1.r4.frozen 0
    have e5 : W.cell? ⟨w.heap.size + 1 + 1 + 1 + 1 + 1, 0, none⟩ = some (.bool false) := hh1.r5.cell 0
    have f5 := hh1.r5.frozen 0
    by_cases hx : x.1 = nm
    · have hx' : (x.1 == nm) = true := by simpa using hx
      have HX := Lib.hid hx
      clear hx
      gi_wp2
      have hD : ∀ j, W.cell? ⟨Bx, j, none⟩ = W.cell? ⟨Bx, j, none⟩ := fun _ => rfl
      refine regionIn_eq (fun _ => trivial) (by kernel_rfl) [8, 9, 10, 11, 12]
        (fun i => match i with | 0 => .pointer (some ⟨Bx, 0, none⟩) | 1 => .int .i8 x.2.1 | 2 => .pointer (some ⟨Bx, 1, none⟩) | 3 => .int .i8 x.2.2.1 | 4 => .pointer (some ⟨Bx, 2, none⟩) | 5 => .int .i64 x.2.2.2.1 | 6 => .pointer (some ⟨Bx, 3, none⟩) | 7 => .int .i64 x.2.2.2.2 | _ => undef)
        (WdP W w.heap.size x) rfl (by kernel_rfl) (by decide) ?fl ?ef ?q
      case fl =>
        intro i hi hne
        have hi' : i < 13 := hi
        obtain rfl | rfl | rfl | rfl | rfl | rfl | rfl | rfl | rfl | rfl | rfl | rfl | rfl : i = 0 ∨ i = 1 ∨ i = 2 ∨ i = 3 ∨ i = 4 ∨ i = 5 ∨ i = 6 ∨ i = 7 ∨ i = 8 ∨ i = 9 ∨ i = 10 ∨ i = 11 ∨ i = 12 := by omega
        · exact fun k _ => by kernel_rfl
        · exact fun k hk => Eq.trans (b := Sem.run Tryd.prog (do pure (Next.value (← Instr.loadAt 22 (.pointer (some ⟨Bx, 0, none⟩))))) _) (by kernel_rfl) (ld8 _ _ _ ((wd_cell W w.heap.size x hBx k hk 0).trans d0))
        · exact fun k _ => by kernel_rfl
        · exact fun k hk => Eq.trans (b := Sem.run Tryd.prog (do pure (Next.value (← Instr.loadAt 22 (.pointer (some ⟨Bx, 1, none⟩))))) _) (by kernel_rfl) (ld8 _ _ _ ((wd_cell W w.heap.size x hBx k hk 1).trans d1))
        · exact fun k _ => by kernel_rfl
        · exact fun k hk => Eq.trans (b := Sem.run Tryd.prog (do pure (Next.value (← Instr.loadAt 3 (.pointer (some ⟨Bx, 2, none⟩))))) _) (by kernel_rfl) (ld64 _ _ _ ((wd_cell W w.heap.size x hBx k hk 2).trans d2))
        · exact fun k _ => by kernel_rfl
        · exact fun k hk => Eq.trans (b := Sem.run Tryd.prog (do pure (Next.value (← Instr.loadAt 3 (.pointer (some ⟨Bx, 3, none⟩))))) _) (by kernel_rfl) (ld64 _ _ _ ((wd_cell W w.heap.size x hBx k hk 3).trans d3))
        all_goals exact absurd (by decide) hne
      case ef =>
        intro k hk
        have hk' : k < 5 := hk
        obtain rfl | rfl | rfl | rfl | rfl : k = 0 ∨ k = 1 ∨ k = 2 ∨ k = 3 ∨ k = 4 := by omega
        · exact ⟨by kernel_rfl, .inr ⟨Eq.trans (b := Sem.run Tryd.prog (do Instr.storeAt 22 (.pointer (some ⟨w.heap.size + 1, 0, none⟩)) (.int .i8 x.2.1); pure Next.skip) _) (by kernel_rfl) (st8 _ _ _ _ e1 f1), rfl⟩⟩
        · exact ⟨by kernel_rfl, .inr ⟨Eq.trans (b := Sem.run Tryd.prog (do Instr.storeAt 22 (.pointer (some ⟨w.heap.size + 1 + 1, 0, none⟩)) (.int .i8 x.2.2.1); pure Next.skip) _) (by kernel_rfl) (st8 _ _ _ _ ((w1_other W w.heap.size x _ (Nat.lt_succ_self _)).1.trans e2) ((w1_other W w.heap.size x _ (Nat.lt_succ_self _)).2.trans f2)), rfl⟩⟩
        · exact ⟨by kernel_rfl, .inr ⟨Eq.trans (b := Sem.run Tryd.prog (do Instr.storeAt 3 (.pointer (some ⟨w.heap.size + 1 + 1 + 1, 0, none⟩)) (.int .i64 x.2.2.2.1); pure Next.skip) _) (by kernel_rfl) (st64 _ _ _ _ ((w2_other W w.heap.size x _ (Nat.lt_succ_self _)).1.trans e3) ((w2_other W w.heap.size x _ (Nat.lt_succ_self _)).2.trans f3)), rfl⟩⟩
        · exact ⟨by kernel_rfl, .inr ⟨Eq.trans (b := Sem.run Tryd.prog (do Instr.storeAt 3 (.pointer (some ⟨w.heap.size + 1 + 1 + 1 + 1, 0, none⟩)) (.int .i64 x.2.2.2.2); pure Next.skip) _) (by kernel_rfl) (st64 _ _ _ _ ((w3_other W w.heap.size x _ (Nat.lt_succ_self _)).1.trans e4) ((w3_other W w.heap.size x _ (Nat.lt_succ_self _)).2.trans f4)), rfl⟩⟩
        · exact ⟨by kernel_rfl, .inr ⟨Eq.trans (b := Sem.run Tryd.prog (do Instr.storeAt 4 (.pointer (some ⟨w.heap.size + 1 + 1 + 1 + 1 + 1, 0, none⟩)) (.bool true); pure Next.skip) _) (by kernel_rfl) (stB _ _ _ _ ((w4_other W w.heap.size x _ (Nat.lt_succ_self _)).1.trans e5) ((w4_other W w.heap.size x _ (Nat.lt_succ_self _)).2.trans f5)), rfl⟩⟩
      case q =>
        generalize putsOf _ _ _ _ _ = aF
        clear hD
        gi_wp2
        exact ⟨(keeps5 W w.heap.size x).from _, rfl, pre, x, rfl, hp, HX.out, held5 hh1 x⟩
    · have hx' : (x.1 == nm) = false := by simpa using hx
      gi_wp2
      refine ⟨(KeepsOthers.refl _).from _, (KeepsOthers.refl _).walks, ?_, hh1⟩
      intro y hy
      rcases List.mem_append.1 hy with hy | hy
      · exact hp y hy
      · simp at hy; subst hy; exact hx
  case done =>
    rintro D xs W hDD rfl ⟨hp, hh1⟩ hK
    have e1 : W.cell? ⟨w.heap.size + 1, 0, none⟩ = some (.int .i8 0) := hh1.r1.cell 0
    have f1 := hh1.r1.frozen 0
    have e2 : W.cell? ⟨w.heap.size + 1 + 1, 0, none⟩ = some (.int .i8 0) := hh1.r2.cell 0
    have f2 := hh1.r2.frozen 0
    have e3 : W.cell? ⟨w.heap.size + 1 + 1 + 1, 0, none⟩ = some (.int .i64 0) := hh1.r3.cell 0
    have f3 := hh1.r3.frozen 0
    have e4 : W.cell? ⟨w.heap.size + 1 + 1 + 1 + 1, 0, none⟩ = some (.int .i64 0) := hh1.r4.cell 0
    have f4 := hh1.r4.frozen 0
    have e5 : W.cell? ⟨w.heap.size + 1 + 1 + 1 + 1 + 1, 0, none⟩ = some (.bool false) := hh1.r5.cell 0
    have f5 := hh1.r5.frozen 0
    gi_wp2
    have hh3 := held5g hh1 0 0 0 0 false
    have hk3 := (((((KeepsOthers.setCell W ⟨w.heap.size + 1, 0, none⟩ (Value.int IntKind.i8 0)).trans (KeepsOthers.setCell _ ⟨w.heap.size + 1 + 1, 0, none⟩ (Value.int IntKind.i8 0))).trans (KeepsOthers.setCell _ ⟨w.heap.size + 1 + 1 + 1, 0, none⟩ (Value.int IntKind.i64 0))).trans (KeepsOthers.setCell _ ⟨w.heap.size + 1 + 1 + 1 + 1, 0, none⟩ (Value.int IntKind.i64 0))).trans (KeepsOthers.setCell _ ⟨w.heap.size + 1 + 1 + 1 + 1 + 1, 0, none⟩ (Value.bool false))).same D _ hK rfl
    refine ⟨by simp, .inl ⟨_, _, rfl, run_takeDeferred hk3, ?_⟩⟩
    have hh2 := hh3.grown (grownBy_putObj' _ D (.deferred none)) (fun k e => by cases e; rw [HZ.out] at hDD; omega)
    refine ⟨_, held_tuple hh2 _ _ _, ?_, hh2.below⟩
    simp only [parseV, parseE_none hp]
  case stop =>
    rintro D c pre W hDD hSp ⟨rfl, ys, y, h1, h2, h3, hh1⟩ hK
    gi_wp2
    refine ⟨by simp, .inl ⟨_, _, rfl, run_takeDeferred hK, ?_⟩⟩
    have hh2 := hh1.grown (grownBy_putObj' W D (.deferred none)) (fun k e => by cases e; rw [HZ.out] at hDD; omega)
    refine ⟨_, held_tuple hh2 _ _ _, ?_, hh2.below⟩
    simp only [parseV, parseE_pre hSp y ys h1 h2 h3]
end Go.Proofs.YtdaijofmglpmdaaDoor
