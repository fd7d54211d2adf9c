/- Opening arguments that are disks and operations. -/
import Derived.Test.YtepcpdionlfkhaaDoorOpenT
import Derived.Test.YtepcpdionlfkhaaDoorDkC
import Derived.Test.YtepcpdionlfkhaaDoorDkL0
namespace Go.Proofs.YtepcpdionlfkhaaDoor
open Go Go.RowKit Go.ChangeShapes Go.WideShapes Go.Deep Go.Joins
set_option linter.unusedVariables false
set_option linter.unusedSimpArgs false
abbrev shFile : Sh := .cat .str (.cat .str shI)
abbrev shDisk : Sh := .cat (.slice shFile) (.cat shI (.cat shI .bool))
theorem file_of {ds : List D} (h : IsD shFile ds) : ∃ f : FileD, ds = f.dv ∧ I64 f.sure := by
  obtain ⟨_, _, rfl, ⟨l1, rfl, b1⟩, _, _, rfl, ⟨l2, rfl, b2⟩, ⟨n, rfl, w⟩⟩ := h
  exact ⟨⟨l1, l2, n⟩, rfl, .of w⟩
structure DkA where
  fs : List FileD
  cap : Int
  left : Int
  down : Bool
def DkA.dv (d : DkA) : List D := [.lst 3 (d.fs.map FileD.dv), int d.cap, int d.left, boo d.down]
structure DkA.Ok (d : DkA) : Prop where
  cap : I64 d.cap
  left : I64 d.left
theorem disk_of {ds : List D} (h : IsD shDisk ds) : ∃ d : DkA, ds = d.dv ∧ d.Ok := by
  obtain ⟨_, _, rfl, ⟨xs, rfl, hl, hx⟩, _, _, rfl, ⟨n1, rfl, w1⟩, _, _, rfl, ⟨n2, rfl, w2⟩, ⟨b, rfl⟩⟩ := h
  obtain ⟨l, rfl, hq⟩ := all_dv (fun ds h => file_of h) xs hx
  exact ⟨⟨l, n1, n2, b⟩, rfl, .of w1, .of w2⟩
end Go.Proofs.YtepcpdionlfkhaaDoor
