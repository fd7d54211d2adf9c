/- Opening arguments that are disks and operations. -/
import Derived.Test.YtepcpdionlfkhaaGreatDoorOpenT
import Derived.Test.YtepcpdionlfkhaaGreatDoorDkC
import Derived.Test.YtepcpdionlfkhaaGreatDoorDkL0
namespace Go.Proofs.YtepcpdionlfkhaaGreatDoor
open Go Go.RowKit Go.ChangeShapes Go.WideShapes Go.Deep Go.Joins
set_option linter.unusedVariables false
set_option linter.unusedSimpArgs false
abbrev shFile : Sh := .cat .str (.cat .str shI)
abbrev shDisk : Sh := .cat (.slice shFile) (.cat shI (.cat shI .bool))
abbrev shWrite : Sh := .cat (.int .i8) (.cat .str (.cat .str shI))
theorem file_of {ds : List D} (h : IsD shFile ds) : ∃ f : FileD, ds = f.dv ∧ I64 f.sure := by
  obtain ⟨_, _, rfl, ⟨l1, rfl, b1⟩, _, _, rfl, ⟨l2, rfl, b2⟩, ⟨n, rfl, w⟩⟩ := h
  exact ⟨⟨l1, l2, n⟩, rfl, .of w⟩
structure DkA where
  fs : List FileD
  cap : Int
  left : Int
  down : Bool
def DkA.dv (d : DkA) : List D := [.lst 3 (d.fs.map FileD.dv), int d.cap, int d.left, boo d.down]
structure DkA.Ok (d : DkA) : Prop where
  cap : I64 d.cap
  left : I64 d.left
theorem disk_of {ds : List D} (h : IsD shDisk ds) : ∃ d : DkA, ds = d.dv ∧ d.Ok := by
  obtain ⟨_, _, rfl, ⟨xs, rfl, hl, hx⟩, _, _, rfl, ⟨n1, rfl, w1⟩, _, _, rfl, ⟨n2, rfl, w2⟩, ⟨b, rfl⟩⟩ := h
  obtain ⟨l, rfl, hq⟩ := all_dv (fun ds h => file_of h) xs hx
  exact ⟨⟨l, n1, n2, b⟩, rfl, .of w1, .of w2⟩
theorem i8_in {n : Int} (h : (Lit.int .i8 n).wf = true) : -128 ≤ n ∧ n ≤ 127 := by
  have h' : (decide (IntKind.i8.min ≤ n) && decide (n ≤ IntKind.i8.max)) = true := h
  have e1 : IntKind.i8.max = 127 := by decide +kernel
  have e2 : IntKind.i8.min = -128 := by decide +kernel
  rw [e1, e2, Bool.and_eq_true] at h'
  exact ⟨of_decide_eq_true h'.1, of_decide_eq_true h'.2⟩
theorem write_of {ds : List D} (h : IsD shWrite ds) : ∃ w : WriteD, ds = w.dv ∧ (-128 ≤ w.op ∧ w.op ≤ 127) := by
  obtain ⟨_, _, rfl, ⟨n1, rfl, w1⟩, _, _, rfl, ⟨l1, rfl, b1⟩, _, _, rfl, ⟨l2, rfl, b2⟩, ⟨n, rfl, w⟩⟩ := h
  exact ⟨⟨n1, l1, l2, n⟩, rfl, i8_in w1⟩
end Go.Proofs.YtepcpdionlfkhaaGreatDoor
