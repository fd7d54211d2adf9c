/- Opening arguments of the types of package api. -/
import Derived.Test.YtafipkbffboebaaDoorOpenG
import Derived.Test.YtafipkbffboebaaDoorApi
import Derived.Test.YtafipkbffboebaaDoorAuto
namespace Go.Proofs.YtafipkbffboebaaDoor
open Go Go.RowKit Go.ChangeShapes Go.WideShapes Go.Deep Go.Joins
set_option linter.unusedVariables false
set_option linter.unusedSimpArgs false
def I64 (n : Int) : Prop := -9223372036854775808 ≤ n ∧ n ≤ 9223372036854775807
theorem I64.of {n : Int} (h : (Lit.int .i64 n).wf = true) : I64 n := by
  have h : decide (-9223372036854775808 ≤ n) && decide (n ≤ 9223372036854775807) := h
  simp at h; exact h
abbrev shI : Sh := .int .i64
abbrev shRec : Sh := .cat .str .str
abbrev shBat : Sh := .cat shI (.cat shI (.cat shI (.cat .bool (.slice shRec))))
abbrev shOpen : Sh := .cat shI (.cat shI (.slice shBat))
def RecD.Ok (r : RecD) : Prop := r.key.length ≤ maxLen ∧ r.value.length ≤ maxLen
structure RowD.Ok (r : RowD) : Prop where
  off : I64 r.off
  pid : I64 r.pid
  seq : I64 r.seq
  key : r.key.length ≤ maxLen
  value : r.value.length ≤ maxLen
structure BatD.Ok (b : BatD) : Prop where
  pid : I64 b.pid
  epoch : I64 b.epoch
  seq : I64 b.seq
  len : b.recs.length ≤ maxLen
  recs : ∀ r ∈ b.recs, r.Ok
structure SeenD.Ok (s : SeenD) : Prop where
  seq : I64 s.seq
  count : I64 s.count
  base : I64 s.base
structure ProdD.Ok (p : ProdD) : Prop where
  pid : I64 p.pid
  epoch : I64 p.epoch
  next : I64 p.next
  len : p.seen.length ≤ maxLen
  seen : ∀ s ∈ p.seen, s.Ok
structure OpenD.Ok (o : OpenD) : Prop where
  pid : I64 o.pid
  epoch : I64 o.epoch
  len : o.bats.length ≤ maxLen
  bats : ∀ b ∈ o.bats, b.Ok
structure PartD.Ok (p : PartD) : Prop where
  start : I64 p.start
  fin : I64 p.fin
  rlen : p.rows.length ≤ maxLen
  rows : ∀ r ∈ p.rows, r.Ok
  olen : p.opens.length ≤ maxLen
  opens : ∀ o ∈ p.opens, o.Ok
  plen : p.prods.length ≤ maxLen
  prods : ∀ q ∈ p.prods, q.Ok
theorem rec_of {ds : List D} (h : IsD shRec ds) : ∃ r : RecD, ds = r.dv ∧ r.Ok := by
  obtain ⟨_, _, rfl, ⟨l1, rfl, b1⟩, ⟨l2, rfl, b2⟩⟩ := h
  exact ⟨⟨l1, l2⟩, rfl, b1, b2⟩
theorem bat_of {ds : List D} (h : IsD shBat ds) : ∃ b : BatD, ds = b.dv ∧ b.Ok := by
  obtain ⟨_, _, rfl, ⟨n1, rfl, w1⟩, _, _, rfl, ⟨n2, rfl, w2⟩, _, _, rfl, ⟨n3, rfl, w3⟩, _, _, rfl, ⟨b, rfl⟩, xs, rfl, hl, hx⟩ := h
  obtain ⟨l, rfl, hq⟩ := all_dv (fun ds h => rec_of h) xs hx
  exact ⟨⟨n1, n2, n3, b, l⟩, rfl, .of w1, .of w2, .of w3, by simpa using hl, hq⟩
theorem open_of {ds : List D} (h : IsD shOpen ds) : ∃ o : OpenD, ds = o.dv ∧ o.Ok := by
  obtain ⟨_, _, rfl, ⟨n1, rfl, w1⟩, _, _, rfl, ⟨n2, rfl, w2⟩, xs, rfl, hl, hx⟩ := h
  obtain ⟨l, rfl, hq⟩ := all_dv (fun ds h => bat_of h) xs hx
  exact ⟨⟨n1, n2, l⟩, rfl, .of w1, .of w2, by simpa using hl, hq⟩
end Go.Proofs.YtafipkbffboebaaDoor
