/- The abstract machine (RgE, RgF, RgH, RgI, RgG, RgK). -/
import Derived.Test.YtpklhnpchhaccaaGreatDoorRgM
import Derived.Test.YtpklhnpchhaccaaGreatDoorCpMc
import Derived.Test.YtpklhnpchhaccaaGreatDoorMpK
namespace Go.Proofs.YtpklhnpchhaccaaGreatDoor
open Go Go.RowKit
set_option maxHeartbeats 8000000
set_option maxRecDepth 100000
set_option linter.unusedVariables false
set_option linter.unusedSimpArgs false
theorem tL (e : EntD) (x y : D) (hx : sX x (.lst 2 (e.b.recs.map RecD.dv))) (hy : sX y (.lst 3 (e.prod.seen.map SeenD.dv))) : AllLe [i8 e.kind, int e.b.pid, int e.b.epoch, int e.b.seq, iF e.b.txn, x, iF e.yes, int e.next, int e.off, int e.row.off, int e.row.pid, int e.row.seq, str e.row.key, str e.row.value, int e.prod.pid, int e.prod.epoch, int e.prod.next, y] e.dv :=
 .cons (.refl _) (.cons (.refl _) (.cons (.refl _) (.cons (.refl _) (.cons (.refl _) (.cons hx (.cons (.refl _) (.cons (.refl _) (.cons (.refl _) (.cons (.refl _) (.cons (.refl _) (.cons (.refl _) (.cons (.refl _) (.cons (.refl _) (.cons (.refl _) (.cons (.refl _) (.cons (.refl _) (.cons hy .nil)))))))))))))))))

structure PSmall (p : PartD) : Prop where
 fin : 0 ≤ p.fin ∧ p.fin ≤ 1048576
 opens : p.opens.length ≤ 1000
 rows : p.rows.length ≤ 100000
 prods : SmallL p.prods
 bats : ∀ o ∈ p.opens, o.bats.length ≤ 8
 recs : ∀ o ∈ p.opens, ∀ b ∈ o.bats, b.recs.length ≤ 4
theorem FOk.ps {k : Nat} {p : PartD} (h : FOk k p) (hk : k ≤ 1000) : PSmall p := ⟨h.fin, by have := h.opens; omega, by have := h.rows; omega, h.small (by omega), h.bats, h.recs⟩


end Go.Proofs.YtpklhnpchhaccaaGreatDoor
