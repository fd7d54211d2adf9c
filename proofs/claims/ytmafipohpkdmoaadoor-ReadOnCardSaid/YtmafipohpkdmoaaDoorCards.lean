/-
  DERIVED. GIVEN WITH THE SEED: THE CARDS: each row of YtmafipohpkdmoaaDoorRows.lean that lists a variable, with what it lists TIED to the program's text (the seventh form; the later family's looks); each row that meets fmt, with fmt's text TOLD by the authors' own Lean function (tested against real Go, not proved from fmt's source: count such statements apart). THE CARD IS WHAT COUNTS. Prove the row's statement (the work); the ties are given (YtmafipohpkdmoaaDoorTie.lean); close each card by the builder's one call (the guide's Derived/Test/ToyasCard.lean, 'card_holds'). Laid BY PROGRAM, IN A SANDBOX (cutbox-door.mjs). By AI agents, Wed Nov 11 2026. No macro, syntax, notation, axiom, sorry.
-/
import Derived.Test.YtmafipohpkdmoaaDoorRows
import GoSem.ClaimSeven
namespace Go.Proofs.YtmafipohpkdmoaaDoor
namespace Rows

/-- THE TIED CARD OF 'rovinglaw03.DiskSure'. -/
def diskSureCard : Claim7 := { stood := { row := diskSureRow, standIns := [], harness := (true, "ed6d866d049d8597eef25f391383749238f0d251f3879a313c476c8b95faadb4"), looks := true }, kinds := [], alts := [], laidByText := true, laidKinds := [.handle], laidTests := true, laidLooks := .later }
def DiskSureCardSaid : Prop := Claim7.holds Tryd.pinned (.plain (OpenSpec.ofChange diskSureSpec)) diskSureCard

/-- THE TIED CARD OF 'rovinglaw13.ReadOn'. -/
def readOnCard : Claim7 := { stood := { row := readOnRow, standIns := [], harness := (true, "ed6d866d049d8597eef25f391383749238f0d251f3879a313c476c8b95faadb4"), looks := true }, kinds := [], alts := [], laidByText := true, laidKinds := [.handle], laidTests := true, laidLooks := .later }
def ReadOnCardSaid : Prop := Claim7.holds Tryd.pinned (.plain (OpenSpec.ofChange readOnSpec)) readOnCard

/-- THE TIED CARD OF 'rovinglaw10.SeqsTake'. -/
def seqsTakeCard : Claim7 := { stood := { row := seqsTakeRow, standIns := [], harness := (true, "ed6d866d049d8597eef25f391383749238f0d251f3879a313c476c8b95faadb4"), looks := true }, kinds := [], alts := [], laidByText := true, laidKinds := [.handle], laidTests := true, laidLooks := .later }
def SeqsTakeCardSaid : Prop := Claim7.holds Tryd.pinned (.plain (OpenSpec.ofChange seqsTakeSpec)) seqsTakeCard

/-- THE TIED CARD OF 'rovinglaw13.ReadPlain'. -/
def readPlainCard : Claim7 := { stood := { row := readPlainRow, standIns := [], harness := (true, "ed6d866d049d8597eef25f391383749238f0d251f3879a313c476c8b95faadb4"), looks := true }, kinds := [], alts := [], laidByText := true, laidKinds := [.handle], laidTests := true, laidLooks := .later }
def ReadPlainCardSaid : Prop := Claim7.holds Tryd.pinned (.plain (OpenSpec.ofChange readPlainSpec)) readPlainCard

/-- THE TIED CARD OF 'rovinglaw10.SeqsOnce'. -/
def seqsOnceCard : Claim7 := { stood := { row := seqsOnceRow, standIns := [], harness := (true, "ed6d866d049d8597eef25f391383749238f0d251f3879a313c476c8b95faadb4"), looks := true }, kinds := [], alts := [], laidByText := true, laidKinds := [.handle], laidTests := true, laidLooks := .later }
def SeqsOnceCardSaid : Prop := Claim7.holds Tryd.pinned (.plain (OpenSpec.ofChange seqsOnceSpec)) seqsOnceCard

/-- THE TIED CARD OF 'rovinglaw13.ReadPending'. -/
def readPendingCard : Claim7 := { stood := { row := readPendingRow, standIns := [], harness := (true, "ed6d866d049d8597eef25f391383749238f0d251f3879a313c476c8b95faadb4"), looks := true }, kinds := [], alts := [], laidByText := true, laidKinds := [.handle], laidTests := true, laidLooks := .later }
def ReadPendingCardSaid : Prop := Claim7.holds Tryd.pinned (.plain (OpenSpec.ofChange readPendingSpec)) readPendingCard

/-- THE TIED CARD OF 'rovinglaw13.ReadHides'. -/
def readHidesCard : Claim7 := { stood := { row := readHidesRow, standIns := [], harness := (true, "ed6d866d049d8597eef25f391383749238f0d251f3879a313c476c8b95faadb4"), looks := true }, kinds := [], alts := [], laidByText := true, laidKinds := [.handle], laidTests := true, laidLooks := .later }
def ReadHidesCardSaid : Prop := Claim7.holds Tryd.pinned (.plain (OpenSpec.ofChange readHidesSpec)) readHidesCard

/-- THE TIED CARD OF 'rovinglaw13.ReadCuts'. -/
def readCutsCard : Claim7 := { stood := { row := readCutsRow, standIns := [], harness := (true, "ed6d866d049d8597eef25f391383749238f0d251f3879a313c476c8b95faadb4"), looks := true }, kinds := [], alts := [], laidByText := true, laidKinds := [.handle], laidTests := true, laidLooks := .later }
def ReadCutsCardSaid : Prop := Claim7.holds Tryd.pinned (.plain (OpenSpec.ofChange readCutsSpec)) readCutsCard

/-- THE TIED CARD OF 'rovinglaw10.SeqsApart'. -/
def seqsApartCard : Claim7 := { stood := { row := seqsApartRow, standIns := [], harness := (true, "ed6d866d049d8597eef25f391383749238f0d251f3879a313c476c8b95faadb4"), looks := true }, kinds := [], alts := [], laidByText := true, laidKinds := [.handle], laidTests := true, laidLooks := .later }
def SeqsApartCardSaid : Prop := Claim7.holds Tryd.pinned (.plain (OpenSpec.ofChange seqsApartSpec)) seqsApartCard

/-- THE SECOND FORM's CARD OF 'rovinglaw03.DiskSure'. -/
def diskSureUptoCard : Claim7 := { stood := { row := diskSureUptoRow, standIns := [], harness := (true, "ed6d866d049d8597eef25f391383749238f0d251f3879a313c476c8b95faadb4"), looks := true }, kinds := [], alts := [], laidByText := true, laidKinds := [.handle], laidTests := true, laidLooks := .later }
def DiskSureUptoCardSaid : Prop := Claim7.holds Tryd.pinned (.plain (OpenSpec.upto diskSureSpec)) diskSureUptoCard

/-- THE SECOND FORM's CARD OF 'rovinglaw13.ReadOn'. -/
def readOnUptoCard : Claim7 := { stood := { row := readOnUptoRow, standIns := [], harness := (true, "ed6d866d049d8597eef25f391383749238f0d251f3879a313c476c8b95faadb4"), looks := true }, kinds := [], alts := [], laidByText := true, laidKinds := [.handle], laidTests := true, laidLooks := .later }
def ReadOnUptoCardSaid : Prop := Claim7.holds Tryd.pinned (.plain (OpenSpec.upto readOnSpec)) readOnUptoCard

/-- THE SECOND FORM's CARD OF 'rovinglaw10.SeqsTake'. -/
def seqsTakeUptoCard : Claim7 := { stood := { row := seqsTakeUptoRow, standIns := [], harness := (true, "ed6d866d049d8597eef25f391383749238f0d251f3879a313c476c8b95faadb4"), looks := true }, kinds := [], alts := [], laidByText := true, laidKinds := [.handle], laidTests := true, laidLooks := .later }
def SeqsTakeUptoCardSaid : Prop := Claim7.holds Tryd.pinned (.plain (OpenSpec.upto seqsTakeSpec)) seqsTakeUptoCard

/-- THE SECOND FORM's CARD OF 'rovinglaw13.ReadPlain'. -/
def readPlainUptoCard : Claim7 := { stood := { row := readPlainUptoRow, standIns := [], harness := (true, "ed6d866d049d8597eef25f391383749238f0d251f3879a313c476c8b95faadb4"), looks := true }, kinds := [], alts := [], laidByText := true, laidKinds := [.handle], laidTests := true, laidLooks := .later }
def ReadPlainUptoCardSaid : Prop := Claim7.holds Tryd.pinned (.plain (OpenSpec.upto readPlainSpec)) readPlainUptoCard

/-- THE SECOND FORM's CARD OF 'rovinglaw10.SeqsOnce'. -/
def seqsOnceUptoCard : Claim7 := { stood := { row := seqsOnceUptoRow, standIns := [], harness := (true, "ed6d866d049d8597eef25f391383749238f0d251f3879a313c476c8b95faadb4"), looks := true }, kinds := [], alts := [], laidByText := true, laidKinds := [.handle], laidTests := true, laidLooks := .later }
def SeqsOnceUptoCardSaid : Prop := Claim7.holds Tryd.pinned (.plain (OpenSpec.upto seqsOnceSpec)) seqsOnceUptoCard

/-- THE SECOND FORM's CARD OF 'rovinglaw13.ReadPending'. -/
def readPendingUptoCard : Claim7 := { stood := { row := readPendingUptoRow, standIns := [], harness := (true, "ed6d866d049d8597eef25f391383749238f0d251f3879a313c476c8b95faadb4"), looks := true }, kinds := [], alts := [], laidByText := true, laidKinds := [.handle], laidTests := true, laidLooks := .later }
def ReadPendingUptoCardSaid : Prop := Claim7.holds Tryd.pinned (.plain (OpenSpec.upto readPendingSpec)) readPendingUptoCard

/-- THE SECOND FORM's CARD OF 'rovinglaw13.ReadHides'. -/
def readHidesUptoCard : Claim7 := { stood := { row := readHidesUptoRow, standIns := [], harness := (true, "ed6d866d049d8597eef25f391383749238f0d251f3879a313c476c8b95faadb4"), looks := true }, kinds := [], alts := [], laidByText := true, laidKinds := [.handle], laidTests := true, laidLooks := .later }
def ReadHidesUptoCardSaid : Prop := Claim7.holds Tryd.pinned (.plain (OpenSpec.upto readHidesSpec)) readHidesUptoCard

/-- THE SECOND FORM's CARD OF 'rovinglaw13.ReadCuts'. -/
def readCutsUptoCard : Claim7 := { stood := { row := readCutsUptoRow, standIns := [], harness := (true, "ed6d866d049d8597eef25f391383749238f0d251f3879a313c476c8b95faadb4"), looks := true }, kinds := [], alts := [], laidByText := true, laidKinds := [.handle], laidTests := true, laidLooks := .later }
def ReadCutsUptoCardSaid : Prop := Claim7.holds Tryd.pinned (.plain (OpenSpec.upto readCutsSpec)) readCutsUptoCard

/-- THE SECOND FORM's CARD OF 'rovinglaw10.SeqsApart'. -/
def seqsApartUptoCard : Claim7 := { stood := { row := seqsApartUptoRow, standIns := [], harness := (true, "ed6d866d049d8597eef25f391383749238f0d251f3879a313c476c8b95faadb4"), looks := true }, kinds := [], alts := [], laidByText := true, laidKinds := [.handle], laidTests := true, laidLooks := .later }
def SeqsApartUptoCardSaid : Prop := Claim7.holds Tryd.pinned (.plain (OpenSpec.upto seqsApartSpec)) seqsApartUptoCard
end Rows
end Go.Proofs.YtmafipohpkdmoaaDoor
