/-
  DERIVED. GIVEN WITH THE SEED: THE CARDS: each row of YtljhcenfmaiaoaaDoorRows.lean that lists a variable, with what it lists TIED to the program's text (the seventh form; the later family's looks); each row that meets fmt, with fmt's text TOLD by the authors' own Lean function (tested against real Go, not proved from fmt's source: count such statements apart). THE CARD IS WHAT COUNTS. Prove the row's statement (the work); the ties are given (YtljhcenfmaiaoaaDoorTie.lean); close each card by the builder's one call (the guide's Derived/Test/ToyasCard.lean, 'card_holds'). Laid BY PROGRAM, IN A SANDBOX (cutbox-door.mjs). By AI agents, Wed Nov 11 2026. No macro, syntax, notation, axiom, sorry.
-/
import Derived.Test.YtljhcenfmaiaoaaDoorRows
import GoSem.ClaimSeven
namespace Go.Proofs.YtljhcenfmaiaoaaDoor
namespace Rows

/-- THE TIED CARD OF 'rovinglaw03.DiskFull'. -/
def diskFullCard : Claim7 := { stood := { row := diskFullRow, standIns := [], harness := (true, "8dd171e1460a0b04a35a830691a1b6588b2b56537885d49c1b943c923b0285fd"), looks := true }, kinds := [], alts := [], laidByText := true, laidKinds := [.handle], laidTests := true, laidLooks := .later }
def DiskFullCardSaid : Prop := Claim7.holds Tryd.pinned (.plain (OpenSpec.ofChange diskFullSpec)) diskFullCard

/-- THE TIED CARD OF 'rovinglaw03.DiskPlays'. -/
def diskPlaysCard : Claim7 := { stood := { row := diskPlaysRow, standIns := [], harness := (true, "8dd171e1460a0b04a35a830691a1b6588b2b56537885d49c1b943c923b0285fd"), looks := true }, kinds := [], alts := [], laidByText := true, laidKinds := [.handle], laidTests := true, laidLooks := .later }
def DiskPlaysCardSaid : Prop := Claim7.holds Tryd.pinned (.plain (OpenSpec.ofChange diskPlaysSpec)) diskPlaysCard

/-- THE TIED CARD OF 'rovinglaw03.DiskLeft'. -/
def diskLeftCard : Claim7 := { stood := { row := diskLeftRow, standIns := [], harness := (true, "8dd171e1460a0b04a35a830691a1b6588b2b56537885d49c1b943c923b0285fd"), looks := true }, kinds := [], alts := [], laidByText := true, laidKinds := [.handle], laidTests := true, laidLooks := .later }
def DiskLeftCardSaid : Prop := Claim7.holds Tryd.pinned (.plain (OpenSpec.ofChange diskLeftSpec)) diskLeftCard

/-- THE TIED CARD OF 'rovinglaw03.DiskSure'. -/
def diskSureCard : Claim7 := { stood := { row := diskSureRow, standIns := [], harness := (true, "8dd171e1460a0b04a35a830691a1b6588b2b56537885d49c1b943c923b0285fd"), looks := true }, kinds := [], alts := [], laidByText := true, laidKinds := [.handle], laidTests := true, laidLooks := .later }
def DiskSureCardSaid : Prop := Claim7.holds Tryd.pinned (.plain (OpenSpec.ofChange diskSureSpec)) diskSureCard

/-- THE TIED CARD OF 'rovinglaw03.DiskApart'. -/
def diskApartCard : Claim7 := { stood := { row := diskApartRow, standIns := [], harness := (true, "8dd171e1460a0b04a35a830691a1b6588b2b56537885d49c1b943c923b0285fd"), looks := true }, kinds := [], alts := [], laidByText := true, laidKinds := [.handle], laidTests := true, laidLooks := .later }
def DiskApartCardSaid : Prop := Claim7.holds Tryd.pinned (.plain (OpenSpec.ofChange diskApartSpec)) diskApartCard

/-- THE TIED CARD OF 'rovinglaw03.DiskTells'. -/
def diskTellsCard : Claim7 := { stood := { row := diskTellsRow, standIns := [], harness := (true, "8dd171e1460a0b04a35a830691a1b6588b2b56537885d49c1b943c923b0285fd"), looks := true }, kinds := [], alts := [], laidByText := true, laidKinds := [.handle], laidTests := true, laidLooks := .later }
def DiskTellsCardSaid : Prop := Claim7.holds Tryd.pinned (.plain (OpenSpec.ofChange diskTellsSpec)) diskTellsCard

/-- THE SECOND FORM's CARD OF 'rovinglaw03.DiskFull'. -/
def diskFullUptoCard : Claim7 := { stood := { row := diskFullUptoRow, standIns := [], harness := (true, "8dd171e1460a0b04a35a830691a1b6588b2b56537885d49c1b943c923b0285fd"), looks := true }, kinds := [], alts := [], laidByText := true, laidKinds := [.handle], laidTests := true, laidLooks := .later }
def DiskFullUptoCardSaid : Prop := Claim7.holds Tryd.pinned (.plain (OpenSpec.upto diskFullSpec)) diskFullUptoCard

/-- THE SECOND FORM's CARD OF 'rovinglaw03.DiskPlays'. -/
def diskPlaysUptoCard : Claim7 := { stood := { row := diskPlaysUptoRow, standIns := [], harness := (true, "8dd171e1460a0b04a35a830691a1b6588b2b56537885d49c1b943c923b0285fd"), looks := true }, kinds := [], alts := [], laidByText := true, laidKinds := [.handle], laidTests := true, laidLooks := .later }
def DiskPlaysUptoCardSaid : Prop := Claim7.holds Tryd.pinned (.plain (OpenSpec.upto diskPlaysSpec)) diskPlaysUptoCard

/-- THE SECOND FORM's CARD OF 'rovinglaw03.DiskLeft'. -/
def diskLeftUptoCard : Claim7 := { stood := { row := diskLeftUptoRow, standIns := [], harness := (true, "8dd171e1460a0b04a35a830691a1b6588b2b56537885d49c1b943c923b0285fd"), looks := true }, kinds := [], alts := [], laidByText := true, laidKinds := [.handle], laidTests := true, laidLooks := .later }
def DiskLeftUptoCardSaid : Prop := Claim7.holds Tryd.pinned (.plain (OpenSpec.upto diskLeftSpec)) diskLeftUptoCard

/-- THE SECOND FORM's CARD OF 'rovinglaw03.DiskSure'. -/
def diskSureUptoCard : Claim7 := { stood := { row := diskSureUptoRow, standIns := [], harness := (true, "8dd171e1460a0b04a35a830691a1b6588b2b56537885d49c1b943c923b0285fd"), looks := true }, kinds := [], alts := [], laidByText := true, laidKinds := [.handle], laidTests := true, laidLooks := .later }
def DiskSureUptoCardSaid : Prop := Claim7.holds Tryd.pinned (.plain (OpenSpec.upto diskSureSpec)) diskSureUptoCard

/-- THE SECOND FORM's CARD OF 'rovinglaw03.DiskApart'. -/
def diskApartUptoCard : Claim7 := { stood := { row := diskApartUptoRow, standIns := [], harness := (true, "8dd171e1460a0b04a35a830691a1b6588b2b56537885d49c1b943c923b0285fd"), looks := true }, kinds := [], alts := [], laidByText := true, laidKinds := [.handle], laidTests := true, laidLooks := .later }
def DiskApartUptoCardSaid : Prop := Claim7.holds Tryd.pinned (.plain (OpenSpec.upto diskApartSpec)) diskApartUptoCard

/-- THE SECOND FORM's CARD OF 'rovinglaw03.DiskTells'. -/
def diskTellsUptoCard : Claim7 := { stood := { row := diskTellsUptoRow, standIns := [], harness := (true, "8dd171e1460a0b04a35a830691a1b6588b2b56537885d49c1b943c923b0285fd"), looks := true }, kinds := [], alts := [], laidByText := true, laidKinds := [.handle], laidTests := true, laidLooks := .later }
def DiskTellsUptoCardSaid : Prop := Claim7.holds Tryd.pinned (.plain (OpenSpec.upto diskTellsSpec)) diskTellsUptoCard
end Rows
end Go.Proofs.YtljhcenfmaiaoaaDoor
