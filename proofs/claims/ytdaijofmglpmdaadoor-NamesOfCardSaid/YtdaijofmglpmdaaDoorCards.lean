/-
  DERIVED. GIVEN WITH THE SEED: THE CARDS: each row of YtdaijofmglpmdaaDoorRows.lean that lists a variable, with what it lists TIED to the program's text (the seventh form; the later family's looks); each row that meets fmt, with fmt's text TOLD by the authors' own Lean function (tested against real Go, not proved from fmt's source: count such statements apart). THE CARD IS WHAT COUNTS. Prove the row's statement (the work); the ties are given (YtdaijofmglpmdaaDoorTie.lean); close each card by the builder's one call (the guide's Derived/Test/ToyasCard.lean, 'card_holds'). Laid BY PROGRAM, IN A SANDBOX (cutbox-door.mjs). By AI agents, Wed Nov 11 2026. No macro, syntax, notation, axiom, sorry.
-/
import Derived.Test.YtdaijofmglpmdaaDoorRows
import GoSem.ClaimSeven
namespace Go.Proofs.YtdaijofmglpmdaaDoor
namespace Rows

/-- THE TIED CARD OF 'rovinglaw11.NamesTell'. -/
def namesTellCard : Claim7 := { stood := { row := namesTellRow, standIns := [], harness := (true, "c94f94bdaa7eebb67b3d06c9ee6a4241b194fc8f6f745813bd7b032bb03b72fd"), looks := false }, kinds := [], alts := [], laidByText := true, laidKinds := [.data, .data, .data], laidTests := true, laidLooks := .later }
def NamesTellCardSaid : Prop := Claim7.holds Tryd.pinned (.plain (OpenSpec.ofChange namesTellSpec)) namesTellCard

/-- THE TIED CARD OF 'rovinglaw11.NamesBack'. -/
def namesBackCard : Claim7 := { stood := { row := namesBackRow, standIns := [], harness := (true, "c94f94bdaa7eebb67b3d06c9ee6a4241b194fc8f6f745813bd7b032bb03b72fd"), looks := false }, kinds := [], alts := [], laidByText := true, laidKinds := [.data, .data, .data], laidTests := true, laidLooks := .later }
def NamesBackCardSaid : Prop := Claim7.holds Tryd.pinned (.plain (OpenSpec.ofChange namesBackSpec)) namesBackCard

/-- THE TIED CARD OF 'rovinglaw11.NamesApart'. -/
def namesApartCard : Claim7 := { stood := { row := namesApartRow, standIns := [], harness := (true, "c94f94bdaa7eebb67b3d06c9ee6a4241b194fc8f6f745813bd7b032bb03b72fd"), looks := false }, kinds := [], alts := [], laidByText := true, laidKinds := [.data, .data, .data], laidTests := true, laidLooks := .later }
def NamesApartCardSaid : Prop := Claim7.holds Tryd.pinned (.plain (OpenSpec.ofChange namesApartSpec)) namesApartCard

/-- THE TIED CARD OF 'rovinglaw11.NamesOf'. -/
def namesOfCard : Claim7 := { stood := { row := namesOfRow, standIns := [], harness := (true, "c94f94bdaa7eebb67b3d06c9ee6a4241b194fc8f6f745813bd7b032bb03b72fd"), looks := false }, kinds := [], alts := [], laidByText := true, laidKinds := [.data, .data, .data], laidTests := true, laidLooks := .later }
def NamesOfCardSaid : Prop := Claim7.holds Tryd.pinned (.plain (OpenSpec.ofChange namesOfSpec)) namesOfCard

/-- THE SECOND FORM's CARD OF 'rovinglaw11.NamesTell'. -/
def namesTellUptoCard : Claim7 := { stood := { row := namesTellUptoRow, standIns := [], harness := (true, "c94f94bdaa7eebb67b3d06c9ee6a4241b194fc8f6f745813bd7b032bb03b72fd"), looks := false }, kinds := [], alts := [], laidByText := true, laidKinds := [.data, .data, .data], laidTests := true, laidLooks := .later }
def NamesTellUptoCardSaid : Prop := Claim7.holds Tryd.pinned (.plain (OpenSpec.upto namesTellSpec)) namesTellUptoCard

/-- THE SECOND FORM's CARD OF 'rovinglaw11.NamesBack'. -/
def namesBackUptoCard : Claim7 := { stood := { row := namesBackUptoRow, standIns := [], harness := (true, "c94f94bdaa7eebb67b3d06c9ee6a4241b194fc8f6f745813bd7b032bb03b72fd"), looks := false }, kinds := [], alts := [], laidByText := true, laidKinds := [.data, .data, .data], laidTests := true, laidLooks := .later }
def NamesBackUptoCardSaid : Prop := Claim7.holds Tryd.pinned (.plain (OpenSpec.upto namesBackSpec)) namesBackUptoCard

/-- THE SECOND FORM's CARD OF 'rovinglaw11.NamesApart'. -/
def namesApartUptoCard : Claim7 := { stood := { row := namesApartUptoRow, standIns := [], harness := (true, "c94f94bdaa7eebb67b3d06c9ee6a4241b194fc8f6f745813bd7b032bb03b72fd"), looks := false }, kinds := [], alts := [], laidByText := true, laidKinds := [.data, .data, .data], laidTests := true, laidLooks := .later }
def NamesApartUptoCardSaid : Prop := Claim7.holds Tryd.pinned (.plain (OpenSpec.upto namesApartSpec)) namesApartUptoCard

/-- THE SECOND FORM's CARD OF 'rovinglaw11.NamesOf'. -/
def namesOfUptoCard : Claim7 := { stood := { row := namesOfUptoRow, standIns := [], harness := (true, "c94f94bdaa7eebb67b3d06c9ee6a4241b194fc8f6f745813bd7b032bb03b72fd"), looks := false }, kinds := [], alts := [], laidByText := true, laidKinds := [.data, .data, .data], laidTests := true, laidLooks := .later }
def NamesOfUptoCardSaid : Prop := Claim7.holds Tryd.pinned (.plain (OpenSpec.upto namesOfSpec)) namesOfUptoCard
end Rows
end Go.Proofs.YtdaijofmglpmdaaDoor
