/- The types of package api, as data. -/
import Derived.Test.YtafipkbffboebaaDoorMacC
import Derived.Test.YtafipkbffboebaaDoorTy
namespace Go.Proofs.YtafipkbffboebaaDoor
open Go Go.RowKit
set_option linter.unusedVariables false
set_option linter.unusedSimpArgs false
abbrev nilV : D := .val (.slice none 0 0)
abbrev i8 (n : Int) : D := .val (.int .i8 n)
theorem bs_beq (a b : List UInt8) : ((ByteArray.mk a.toArray) == (ByteArray.mk b.toArray)) = (a == b) := by
  show (a.toArray == b.toArray) = (a == b)
  simp
structure RecD where
  key : List UInt8
  value : List UInt8
  deriving DecidableEq
def RecD.dv (r : RecD) : List D := [str r.key, str r.value]
structure RowD where
  off : Int
  pid : Int
  seq : Int
  key : List UInt8
  value : List UInt8
  deriving DecidableEq
def RowD.dv (r : RowD) : List D := [int r.off, int r.pid, int r.seq, str r.key, str r.value]
structure BatD where
  pid : Int
  epoch : Int
  seq : Int
  txn : Bool
  recs : List RecD
  deriving DecidableEq
def BatD.dv (b : BatD) : List D := [int b.pid, int b.epoch, int b.seq, boo b.txn, .lst 2 (b.recs.map RecD.dv)]
structure SeenD where
  seq : Int
  count : Int
  base : Int
  deriving DecidableEq
def SeenD.dv (s : SeenD) : List D := [int s.seq, int s.count, int s.base]
structure ProdD where
  pid : Int
  epoch : Int
  next : Int
  seen : List SeenD
  deriving DecidableEq
def ProdD.dv (p : ProdD) : List D := [int p.pid, int p.epoch, int p.next, .lst 3 (p.seen.map SeenD.dv)]
structure OpenD where
  pid : Int
  epoch : Int
  bats : List BatD
  deriving DecidableEq
def OpenD.dv (o : OpenD) : List D := [int o.pid, int o.epoch, .lst 5 (o.bats.map BatD.dv)]
structure PartD where
  start : Int
  fin : Int
  rows : List RowD
  opens : List OpenD
  prods : List ProdD
  deriving DecidableEq
def PartD.dv (p : PartD) : List D := [int p.start, int p.fin, .lst 5 (p.rows.map RowD.dv), .lst 3 (p.opens.map OpenD.dv), .lst 4 (p.prods.map ProdD.dv)]
theorem take_succ_get {α : Type} (l : List α) (k : Nat) (h : k < l.length) : l.take (k + 1) = l.take k ++ [l[k]] := List.take_succ_eq_append_getElem h
theorem any_take_succ {α : Type} (p : α → Bool) (l : List α) (k : Nat) (h : k < l.length) : (l.take (k + 1)).any p = ((l.take k).any p || p l[k]) := by
  rw [List.take_succ_eq_append_getElem h, List.any_append]; simp
theorem FunA.of_nil {P : Program} {f : FuncId} {e sz s : Nat} {rest : List D} {xs : List (List D)} (h : ∀ a c, FunA P f (.val (.slice a 0 c) :: rest) e sz xs) : FunA P f (.lst s [] :: rest) e sz xs := by
  refine ⟨(h none 0).1, fun K w vs hB hk hL => ?_⟩
  have hl := hL.1
  match vs, hl with
  | v :: vs, hl =>
    have hv := hL.2 0 _ v rfl rfl
    obtain ⟨a, c, us, rfl, _⟩ := hv.inv
    exact (h a c).2 K w _ hB hk ⟨hL.1, fun j x v hx hv => by
      cases j with
      | zero => simp at hx hv; subst hx hv; exact Rep.val _
      | succ j => exact hL.2 (j + 1) x v hx hv⟩
end Go.Proofs.YtafipkbffboebaaDoor
