/-
  DERIVED. GIVEN WITH THE SEED: THE CARDS: each row of YtijnajohkljonaaDoorRows.lean that lists a variable, with what it lists TIED to the program's text (the seventh form; the later family's looks); each row that meets fmt, with fmt's text TOLD by the authors' own Lean function (tested against real Go, not proved from fmt's source: count such statements apart). THE CARD IS WHAT COUNTS. Prove the row's statement (the work); the ties are given (YtijnajohkljonaaDoorTie.lean); close each card by the builder's one call (the guide's Derived/Test/ToyasCard.lean, 'card_holds'). Laid BY PROGRAM, IN A SANDBOX (cutbox-door.mjs). By AI agents, Wed Nov 11 2026. No macro, syntax, notation, axiom, sorry.
-/
import Derived.Test.YtijnajohkljonaaDoorRows
import GoSem.ClaimSeven
namespace Go.Proofs.YtijnajohkljonaaDoor
namespace Rows

/-- THE TIED CARD OF 'rovinglaw03.DiskSure'. -/
def diskSureCard : Claim7 := { stood := { row := diskSureRow, standIns := [], harness := (true, "e14cace1eec8ecc45e3d8e81d76b352d2cf4e84b86e7c76cc4d79fcca090e408"), looks := true }, kinds := [], alts := [], laidByText := true, laidKinds := [.handle], laidTests := true, laidLooks := .later }
def DiskSureCardSaid : Prop := Claim7.holds Tryd.pinned (.plain (OpenSpec.ofChange diskSureSpec)) diskSureCard

/-- THE TIED CARD OF 'rovinglaw13.ReadPending'. -/
def readPendingCard : Claim7 := { stood := { row := readPendingRow, standIns := [], harness := (true, "e14cace1eec8ecc45e3d8e81d76b352d2cf4e84b86e7c76cc4d79fcca090e408"), looks := true }, kinds := [], alts := [], laidByText := true, laidKinds := [.handle], laidTests := true, laidLooks := .later }
def ReadPendingCardSaid : Prop := Claim7.holds Tryd.pinned (.plain (OpenSpec.ofChange readPendingSpec)) readPendingCard

/-- THE TIED CARD OF 'rovinglaw13.ReadHides'. -/
def readHidesCard : Claim7 := { stood := { row := readHidesRow, standIns := [], harness := (true, "e14cace1eec8ecc45e3d8e81d76b352d2cf4e84b86e7c76cc4d79fcca090e408"), looks := true }, kinds := [], alts := [], laidByText := true, laidKinds := [.handle], laidTests := true, laidLooks := .later }
def ReadHidesCardSaid : Prop := Claim7.holds Tryd.pinned (.plain (OpenSpec.ofChange readHidesSpec)) readHidesCard

/-- THE TIED CARD OF 'rovinglaw13.ReadCuts'. -/
def readCutsCard : Claim7 := { stood := { row := readCutsRow, standIns := [], harness := (true, "e14cace1eec8ecc45e3d8e81d76b352d2cf4e84b86e7c76cc4d79fcca090e408"), looks := true }, kinds := [], alts := [], laidByText := true, laidKinds := [.handle], laidTests := true, laidLooks := .later }
def ReadCutsCardSaid : Prop := Claim7.holds Tryd.pinned (.plain (OpenSpec.ofChange readCutsSpec)) readCutsCard

/-- THE TIED CARD OF 'rovinglaw10.SeqsTake'. -/
def seqsTakeCard : Claim7 := { stood := { row := seqsTakeRow, standIns := [], harness := (true, "e14cace1eec8ecc45e3d8e81d76b352d2cf4e84b86e7c76cc4d79fcca090e408"), looks := true }, kinds := [], alts := [], laidByText := true, laidKinds := [.handle], laidTests := true, laidLooks := .later }
def SeqsTakeCardSaid : Prop := Claim7.holds Tryd.pinned (.plain (OpenSpec.ofChange seqsTakeSpec)) seqsTakeCard

/-- THE TIED CARD OF 'rovinglaw10.SeqsOnce'. -/
def seqsOnceCard : Claim7 := { stood := { row := seqsOnceRow, standIns := [], harness := (true, "e14cace1eec8ecc45e3d8e81d76b352d2cf4e84b86e7c76cc4d79fcca090e408"), looks := true }, kinds := [], alts := [], laidByText := true, laidKinds := [.handle], laidTests := true, laidLooks := .later }
def SeqsOnceCardSaid : Prop := Claim7.holds Tryd.pinned (.plain (OpenSpec.ofChange seqsOnceSpec)) seqsOnceCard

/-- THE TIED CARD OF 'rovinglaw10.SeqsApart'. -/
def seqsApartCard : Claim7 := { stood := { row := seqsApartRow, standIns := [], harness := (true, "e14cace1eec8ecc45e3d8e81d76b352d2cf4e84b86e7c76cc4d79fcca090e408"), looks := true }, kinds := [], alts := [], laidByText := true, laidKinds := [.handle], laidTests := true, laidLooks := .later }
def SeqsApartCardSaid : Prop := Claim7.holds Tryd.pinned (.plain (OpenSpec.ofChange seqsApartSpec)) seqsApartCard

/-- THE TIED CARD OF 'rovinglaw15.CopyingResumes'. -/
def copyingResumesCard : Claim7 := { stood := { row := copyingResumesRow, standIns := [], harness := (true, "e14cace1eec8ecc45e3d8e81d76b352d2cf4e84b86e7c76cc4d79fcca090e408"), looks := true }, kinds := [], alts := [], laidByText := true, laidKinds := [.handle], laidTests := true, laidLooks := .later }
def CopyingResumesCardSaid : Prop := Claim7.holds Tryd.pinned (.plain (OpenSpec.ofChange copyingResumesSpec)) copyingResumesCard

/-- THE TIED CARD OF 'rovinglaw15.CopyingFolds'. -/
def copyingFoldsCard : Claim7 := { stood := { row := copyingFoldsRow, standIns := [], harness := (true, "e14cace1eec8ecc45e3d8e81d76b352d2cf4e84b86e7c76cc4d79fcca090e408"), looks := true }, kinds := [], alts := [], laidByText := true, laidKinds := [.handle], laidTests := true, laidLooks := .later }
def CopyingFoldsCardSaid : Prop := Claim7.holds Tryd.pinned (.plain (OpenSpec.ofChange copyingFoldsSpec)) copyingFoldsCard

/-- THE TIED CARD OF 'rovinglaw15.CopyingOthers'. -/
def copyingOthersCard : Claim7 := { stood := { row := copyingOthersRow, standIns := [], harness := (true, "e14cace1eec8ecc45e3d8e81d76b352d2cf4e84b86e7c76cc4d79fcca090e408"), looks := true }, kinds := [], alts := [], laidByText := true, laidKinds := [.handle], laidTests := true, laidLooks := .later }
def CopyingOthersCardSaid : Prop := Claim7.holds Tryd.pinned (.plain (OpenSpec.ofChange copyingOthersSpec)) copyingOthersCard

/-- THE TIED CARD OF 'rovinglaw15.CopyingTells'. -/
def copyingTellsCard : Claim7 := { stood := { row := copyingTellsRow, standIns := [], harness := (true, "e14cace1eec8ecc45e3d8e81d76b352d2cf4e84b86e7c76cc4d79fcca090e408"), looks := true }, kinds := [], alts := [], laidByText := true, laidKinds := [.handle], laidTests := true, laidLooks := .later }
def CopyingTellsCardSaid : Prop := Claim7.holds Tryd.pinned (.plain (OpenSpec.ofChange copyingTellsSpec)) copyingTellsCard

/-- THE TIED CARD OF 'rovinglaw15.CopyingEnds'. -/
def copyingEndsCard : Claim7 := { stood := { row := copyingEndsRow, standIns := [], harness := (true, "e14cace1eec8ecc45e3d8e81d76b352d2cf4e84b86e7c76cc4d79fcca090e408"), looks := true }, kinds := [], alts := [], laidByText := true, laidKinds := [.handle], laidTests := true, laidLooks := .later }
def CopyingEndsCardSaid : Prop := Claim7.holds Tryd.pinned (.plain (OpenSpec.ofChange copyingEndsSpec)) copyingEndsCard

/-- THE SECOND FORM's CARD OF 'rovinglaw03.DiskSure'. -/
def diskSureUptoCard : Claim7 := { stood := { row := diskSureUptoRow, standIns := [], harness := (true, "e14cace1eec8ecc45e3d8e81d76b352d2cf4e84b86e7c76cc4d79fcca090e408"), looks := true }, kinds := [], alts := [], laidByText := true, laidKinds := [.handle], laidTests := true, laidLooks := .later }
def DiskSureUptoCardSaid : Prop := Claim7.holds Tryd.pinned (.plain (OpenSpec.upto diskSureSpec)) diskSureUptoCard

/-- THE SECOND FORM's CARD OF 'rovinglaw13.ReadPending'. -/
def readPendingUptoCard : Claim7 := { stood := { row := readPendingUptoRow, standIns := [], harness := (true, "e14cace1eec8ecc45e3d8e81d76b352d2cf4e84b86e7c76cc4d79fcca090e408"), looks := true }, kinds := [], alts := [], laidByText := true, laidKinds := [.handle], laidTests := true, laidLooks := .later }
def ReadPendingUptoCardSaid : Prop := Claim7.holds Tryd.pinned (.plain (OpenSpec.upto readPendingSpec)) readPendingUptoCard

/-- THE SECOND FORM's CARD OF 'rovinglaw13.ReadHides'. -/
def readHidesUptoCard : Claim7 := { stood := { row := readHidesUptoRow, standIns := [], harness := (true, "e14cace1eec8ecc45e3d8e81d76b352d2cf4e84b86e7c76cc4d79fcca090e408"), looks := true }, kinds := [], alts := [], laidByText := true, laidKinds := [.handle], laidTests := true, laidLooks := .later }
def ReadHidesUptoCardSaid : Prop := Claim7.holds Tryd.pinned (.plain (OpenSpec.upto readHidesSpec)) readHidesUptoCard

/-- THE SECOND FORM's CARD OF 'rovinglaw13.ReadCuts'. -/
def readCutsUptoCard : Claim7 := { stood := { row := readCutsUptoRow, standIns := [], harness := (true, "e14cace1eec8ecc45e3d8e81d76b352d2cf4e84b86e7c76cc4d79fcca090e408"), looks := true }, kinds := [], alts := [], laidByText := true, laidKinds := [.handle], laidTests := true, laidLooks := .later }
def ReadCutsUptoCardSaid : Prop := Claim7.holds Tryd.pinned (.plain (OpenSpec.upto readCutsSpec)) readCutsUptoCard

/-- THE SECOND FORM's CARD OF 'rovinglaw10.SeqsTake'. -/
def seqsTakeUptoCard : Claim7 := { stood := { row := seqsTakeUptoRow, standIns := [], harness := (true, "e14cace1eec8ecc45e3d8e81d76b352d2cf4e84b86e7c76cc4d79fcca090e408"), looks := true }, kinds := [], alts := [], laidByText := true, laidKinds := [.handle], laidTests := true, laidLooks := .later }
def SeqsTakeUptoCardSaid : Prop := Claim7.holds Tryd.pinned (.plain (OpenSpec.upto seqsTakeSpec)) seqsTakeUptoCard

/-- THE SECOND FORM's CARD OF 'rovinglaw10.SeqsOnce'. -/
def seqsOnceUptoCard : Claim7 := { stood := { row := seqsOnceUptoRow, standIns := [], harness := (true, "e14cace1eec8ecc45e3d8e81d76b352d2cf4e84b86e7c76cc4d79fcca090e408"), looks := true }, kinds := [], alts := [], laidByText := true, laidKinds := [.handle], laidTests := true, laidLooks := .later }
def SeqsOnceUptoCardSaid : Prop := Claim7.holds Tryd.pinned (.plain (OpenSpec.upto seqsOnceSpec)) seqsOnceUptoCard

/-- THE SECOND FORM's CARD OF 'rovinglaw10.SeqsApart'. -/
def seqsApartUptoCard : Claim7 := { stood := { row := seqsApartUptoRow, standIns := [], harness := (true, "e14cace1eec8ecc45e3d8e81d76b352d2cf4e84b86e7c76cc4d79fcca090e408"), looks := true }, kinds := [], alts := [], laidByText := true, laidKinds := [.handle], laidTests := true, laidLooks := .later }
def SeqsApartUptoCardSaid : Prop := Claim7.holds Tryd.pinned (.plain (OpenSpec.upto seqsApartSpec)) seqsApartUptoCard

/-- THE SECOND FORM's CARD OF 'rovinglaw15.CopyingResumes'. -/
def copyingResumesUptoCard : Claim7 := { stood := { row := copyingResumesUptoRow, standIns := [], harness := (true, "e14cace1eec8ecc45e3d8e81d76b352d2cf4e84b86e7c76cc4d79fcca090e408"), looks := true }, kinds := [], alts := [], laidByText := true, laidKinds := [.handle], laidTests := true, laidLooks := .later }
def CopyingResumesUptoCardSaid : Prop := Claim7.holds Tryd.pinned (.plain (OpenSpec.upto copyingResumesSpec)) copyingResumesUptoCard

/-- THE SECOND FORM's CARD OF 'rovinglaw15.CopyingFolds'. -/
def copyingFoldsUptoCard : Claim7 := { stood := { row := copyingFoldsUptoRow, standIns := [], harness := (true, "e14cace1eec8ecc45e3d8e81d76b352d2cf4e84b86e7c76cc4d79fcca090e408"), looks := true }, kinds := [], alts := [], laidByText := true, laidKinds := [.handle], laidTests := true, laidLooks := .later }
def CopyingFoldsUptoCardSaid : Prop := Claim7.holds Tryd.pinned (.plain (OpenSpec.upto copyingFoldsSpec)) copyingFoldsUptoCard

/-- THE SECOND FORM's CARD OF 'rovinglaw15.CopyingOthers'. -/
def copyingOthersUptoCard : Claim7 := { stood := { row := copyingOthersUptoRow, standIns := [], harness := (true, "e14cace1eec8ecc45e3d8e81d76b352d2cf4e84b86e7c76cc4d79fcca090e408"), looks := true }, kinds := [], alts := [], laidByText := true, laidKinds := [.handle], laidTests := true, laidLooks := .later }
def CopyingOthersUptoCardSaid : Prop := Claim7.holds Tryd.pinned (.plain (OpenSpec.upto copyingOthersSpec)) copyingOthersUptoCard

/-- THE SECOND FORM's CARD OF 'rovinglaw15.CopyingTells'. -/
def copyingTellsUptoCard : Claim7 := { stood := { row := copyingTellsUptoRow, standIns := [], harness := (true, "e14cace1eec8ecc45e3d8e81d76b352d2cf4e84b86e7c76cc4d79fcca090e408"), looks := true }, kinds := [], alts := [], laidByText := true, laidKinds := [.handle], laidTests := true, laidLooks := .later }
def CopyingTellsUptoCardSaid : Prop := Claim7.holds Tryd.pinned (.plain (OpenSpec.upto copyingTellsSpec)) copyingTellsUptoCard

/-- THE SECOND FORM's CARD OF 'rovinglaw15.CopyingEnds'. -/
def copyingEndsUptoCard : Claim7 := { stood := { row := copyingEndsUptoRow, standIns := [], harness := (true, "e14cace1eec8ecc45e3d8e81d76b352d2cf4e84b86e7c76cc4d79fcca090e408"), looks := true }, kinds := [], alts := [], laidByText := true, laidKinds := [.handle], laidTests := true, laidLooks := .later }
def CopyingEndsUptoCardSaid : Prop := Claim7.holds Tryd.pinned (.plain (OpenSpec.upto copyingEndsSpec)) copyingEndsUptoCard
end Rows
end Go.Proofs.YtijnajohkljonaaDoor
