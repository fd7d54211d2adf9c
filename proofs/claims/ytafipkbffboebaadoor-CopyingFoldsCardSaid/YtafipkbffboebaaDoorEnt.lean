/- Entries, as data. -/
import Derived.Test.YtafipkbffboebaaDoorApi
import Derived.Test.YtafipkbffboebaaDoorAuto
namespace Go.Proofs.YtafipkbffboebaaDoor
open Go Go.RowKit
set_option linter.unusedVariables false
set_option linter.unusedSimpArgs false
structure EntD where
  kind : Int
  b : BatD
  yes : Bool
  next : Int
  off : Int
  row : RowD
  prod : ProdD
  deriving DecidableEq
def EntD.dv (e : EntD) : List D := [i8 e.kind, int e.b.pid, int e.b.epoch, int e.b.seq, boo e.b.txn, .lst 2 (e.b.recs.map RecD.dv), boo e.yes, int e.next, int e.off, int e.row.off, int e.row.pid, int e.row.seq, str e.row.key, str e.row.value, int e.prod.pid, int e.prod.epoch, int e.prod.next, .lst 3 (e.prod.seen.map SeenD.dv)]
def rowZ : RowD := ⟨0, 0, 0, [], []⟩
def prodZ : ProdD := ⟨0, 0, 0, []⟩
/-- What stands for x stands for y too. -/
def DLe (x y : D) : Prop := ∀ K v, Rep K x v → Rep K y v
theorem DLe.refl (x : D) : DLe x x := fun _ _ h => h
theorem DLe.nil (sz : Nat) : DLe nilV (.lst sz []) := fun K v h => by cases h; exact rep_nil _ _
inductive AllLe : List D → List D → Prop
  | nil : AllLe [] []
  | cons {x y : D} {xs ys : List D} (h : DLe x y) (t : AllLe xs ys) : AllLe (x :: xs) (y :: ys)
theorem AllLe.refl : ∀ xs : List D, AllLe xs xs
  | [] => .nil
  | x :: xs => .cons (.refl x) (AllLe.refl xs)
theorem AllLe.len {xs ys : List D} (h : AllLe xs ys) : xs.length = ys.length := by
  induction h with
  | nil => rfl
  | cons _ _ ih => simp [ih]
theorem AllLe.get {xs ys : List D} (h : AllLe xs ys) : ∀ (j : Nat) (y : D), ys[j]? = some y → ∃ x, xs[j]? = some x ∧ DLe x y := by
  induction h with
  | nil => intro j y h; simp at h
  | cons h t ih =>
    intro j y hy
    cases j with
    | zero => simp at hy; subst hy; exact ⟨_, rfl, h⟩
    | succ j => exact ih j y (by simpa using hy)
theorem DLe.agg {xs ys : List D} (h : AllLe xs ys) : DLe (.agg xs) (.agg ys) := fun K v r => by
  cases r with
  | agg hl hv h1 =>
    refine .agg (h.len.symm.trans hl) (fun j y v hy hvv => ?_) h1
    obtain ⟨x, hx, hle⟩ := h.get j y hy
    exact hle _ _ (hv j x v hx hvv)
theorem DLe.tup {xs ys : List D} (h : AllLe xs ys) : DLe (.tup xs) (.tup ys) := fun K v r => by
  cases r with
  | tup hl hv =>
    refine .tup (h.len.symm.trans hl) (fun j y v hy hvv => ?_)
    obtain ⟨x, hx, hle⟩ := h.get j y hy
    exact hle _ _ (hv j x v hx hvv)
theorem AllLe.append {xs ys xs' ys' : List D} (h : AllLe xs ys) (h' : AllLe xs' ys') : AllLe (xs ++ xs') (ys ++ ys') := by
  induction h with
  | nil => exact h'
  | cons h t ih => exact .cons h ih
inductive AllLe2 : List (List D) → List (List D) → Prop
  | nil : AllLe2 [] []
  | cons {x y : List D} {xs ys : List (List D)} (h : AllLe x y) (t : AllLe2 xs ys) : AllLe2 (x :: xs) (y :: ys)
theorem AllLe2.map {α : Type} {f g : α → List D} (h : ∀ a, AllLe (f a) (g a)) : ∀ l : List α, AllLe2 (l.map f) (l.map g)
  | [] => .nil
  | a :: l => .cons (h a) (AllLe2.map h l)
theorem AllLe2.flat {xs ys : List (List D)} (h : AllLe2 xs ys) : AllLe xs.flatten ys.flatten := by
  induction h with
  | nil => exact .nil
  | cons h t ih => rw [List.flatten_cons, List.flatten_cons]; exact h.append ih
theorem AllLe2.len {xs ys : List (List D)} (h : AllLe2 xs ys) : xs.length = ys.length := by
  induction h with
  | nil => rfl
  | cons h t ih => simp [ih]
theorem AllLe2.sizes {xs ys : List (List D)} {sz : Nat} (h : AllLe2 xs ys) (hs : ∀ x ∈ xs, x.length = sz) : ∀ y ∈ ys, y.length = sz := by
  induction h with
  | nil => intro y hy; simp at hy
  | cons h t ih =>
    intro y hy
    rcases List.mem_cons.1 hy with rfl | hy
    · rw [← h.len]; exact hs _ (by simp)
    · exact ih (fun x hx => hs x (by simp [hx])) y hy
theorem DLe.lst {sz : Nat} {xs ys : List (List D)} (h : AllLe2 xs ys) : DLe (.lst sz xs) (.lst sz ys) := fun K v r => by
  cases r with
  | lst hs hc hl hv h1 hk =>
    have hlen := h.len
    have hf := h.flat
    rw [hlen] at hc ⊢
    refine .lst (h.sizes hs) hc (hf.len.symm.trans hl) (fun j y v hy hvv => ?_) h1 (fun hne => hk (fun e => hne (by subst e; cases h; rfl)))
    obtain ⟨x, hx, hle⟩ := hf.get j y hy
    exact hle _ _ (hv j x v hx hvv)
theorem Fun.args {P : Program} {f : FuncId} {xs ys : List D} {r : D} (h : AllLe xs ys) (hf : Fun P f ys r) : Fun P f xs r :=
  ⟨hf.1, fun K w vs hB hk hL => hf.2 K w vs hB hk ⟨h.len.symm.trans hL.1, fun j y v hy hv => by
    obtain ⟨x, hx, hle⟩ := h.get j y hy
    exact hle _ _ (hL.2 j x v hx hv)⟩⟩
/-- A list without elements in a producer's place is nil. -/
def EntD.dvz (e : EntD) : List D := [i8 e.kind, int e.b.pid, int e.b.epoch, int e.b.seq, boo e.b.txn, .lst 2 (e.b.recs.map RecD.dv), boo e.yes, int e.next, int e.off, int e.row.off, int e.row.pid, int e.row.seq, str e.row.key, str e.row.value, int e.prod.pid, int e.prod.epoch, int e.prod.next, nilV]
theorem dvz_le (e : EntD) (h : e.prod.seen = []) : AllLe e.dvz e.dv := by
  unfold EntD.dvz EntD.dv
  rw [h]
  exact .cons (.refl _) (.cons (.refl _) (.cons (.refl _) (.cons (.refl _) (.cons (.refl _) (.cons (.refl _) (.cons (.refl _) (.cons (.refl _) (.cons (.refl _) (.cons (.refl _) (.cons (.refl _) (.cons (.refl _) (.cons (.refl _) (.cons (.refl _) (.cons (.refl _) (.cons (.refl _) (.cons (.refl _) (.cons (.nil 3) .nil)))))))))))))))))
end Go.Proofs.YtafipkbffboebaaDoor
