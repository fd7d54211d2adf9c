/- append of a make onto nil: a new row of zeros. -/
import Derived.Test.YtepcpdionlfkhaaGreatDoorMem
import Derived.Deep.AppendSrc
namespace Go.Proofs.YtepcpdionlfkhaaGreatDoor
open Go Go.RowKit
theorem run_append_nil_make {P : Program} {w : World} (t tx ty e : TypeId) (i : TypeInfo) (z : Value) (ht : P.underlying t = some (.slice e)) (hk : P.underlying tx = some (.int .i64)) (hi : P.info? e = some i) (hz : i.zero = some z) (n : Nat) (h0 : 0 < n) (hs : 0 < i.size) (hn : n ≤ 1000000) (hb : i.bytes ≤ 1000) :
    (Builtin.append_ #[t, tx] ty #[.slice none 0 0, .int .i64 n]).run P w =
      .ok (.slice (some ⟨w.heap.size, 0, none⟩) n (grownCap w n 0 e)) (w.drew.alloc (.cells (Builtin.zeroCells z.cells n ++ Builtin.zeroCells z.cells (grownCap w n 0 e - n)) e)) := by
  have hw : IntKind.i64.wrap (n : Int) = n := IntWalk.i64_in _ (by omega)
  have h1 : ¬ ((n : Int) < 0) := by omega
  have hm : n * i.bytes ≤ 1000000000 := Nat.le_trans (Nat.mul_le_mul hn hb) (Nat.le_refl 1000000000)
  have h2 : ¬ (281474976710656 < (n : Int) * (i.bytes : Int)) := by
    have : ((n * i.bytes : Nat) : Int) ≤ 1000000000 := Int.ofNat_le.2 hm
    rw [Int.natCast_mul] at this; omega
  have h3 : ¬ (n = 0) := by omega
  have h4 : ¬ (n * i.size = 0) := by have := Nat.mul_pos h0 hs; omega
  have h5 : ¬ (9223372036854775807 < (n : Int)) := by omega
  have hnc : Builtin.nextslicecap n 0 = n := by simp [Builtin.nextslicecap, h0]
  have h6 : ¬ (281474976710656 < n * i.bytes) := by omega
  simp [Builtin.append_, run_underlying ht, run_underlying hk, sizeOf, typeInfo, zeroValue, hi, hz, hw, h1, h2, h3, h4, h5, h6, hnc, Question.forced, newRow, grownCap, asInt, asIntOf, Builtin.firstCells]
theorem wpList_append_nil_make {P : Program} {w : World} {ops : Array Oper} {rest : List Oper} {o : Oper} {a : Act} {Q : Exit → Act → World → Prop} (hgd : o.guard = none) (s x : Operand) (t tx : TypeId)
    (ho : o.op = .call { callee := .builtin .append, args := #[s, x], argTypes := #[t, tx] }) (e : TypeId) (i : TypeInfo) (z : Value) (ht : P.underlying t = some (.slice e)) (hk : P.underlying tx = some (.int .i64)) (hi : P.info? e = some i) (hz : i.zero = some z) (n : Nat) (h0 : 0 < n) (hs : 0 < i.size) (hn : n ≤ 1000000) (hb : i.bytes ≤ 1000)
    (hsv : a.eval s = .slice none 0 0) (hx : a.eval x = .int .i64 n)
    (h : wpList P ops Q rest (a.put o.dst (.slice (some ⟨w.heap.size, 0, none⟩) n (grownCap w n 0 e))) (w.drew.alloc (.cells (Builtin.zeroCells z.cells n ++ Builtin.zeroCells z.cells (grownCap w n 0 e - n)) e))) : wpList P ops Q (o :: rest) a w := by
  refine wpList_plain hgd fun K hK => ?_
  have hrun := run_append_nil_make (P := P) (w := w) t tx o.type e i z ht hk hi hz n h0 hs hn hb
  unfold Oper.wp
  simp [execOp, ho, resolve, invoke, builtin, hsv, hx, hrun, Result.andThen]
  exact hK _ _ h
theorem owns_grown {w : World} {e : TypeId} {z : Value} {base n : Nat} {sz : Nat} (hz : z.cells.size = sz) (hb : base ≤ w.heap.size) (hn : n ≤ maxLen) :
    (w.drew.alloc (.cells (Builtin.zeroCells z.cells n ++ Builtin.zeroCells z.cells (grownCap w n 0 e - n)) e)).ownsRow base e sz (.slice (some ⟨w.heap.size, 0, none⟩) 0 (grownCap w n 0 e)) 0 [] := by
  refine ⟨by simp, .inr ⟨w.heap.size, _, _, rfl, hb, heap_alloc_new w.drew _, Nat.zero_le _, grownCap_le_maxLen w n 0 e hn, ?_, by simp⟩⟩
  have hg := grownCap_ge w n 0 e
  rw [Array.size_append, size_zeroCells, size_zeroCells, hz, ← Nat.add_mul]
  congr 1; omega
end Go.Proofs.YtepcpdionlfkhaaGreatDoor
