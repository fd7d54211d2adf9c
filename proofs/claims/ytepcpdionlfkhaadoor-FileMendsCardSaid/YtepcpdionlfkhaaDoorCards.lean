/-
  DERIVED. GIVEN WITH THE SEED: THE CARDS: each row of YtepcpdionlfkhaaDoorRows.lean that lists a variable, with what it lists TIED to the program's text (the seventh form; the later family's looks); each row that meets fmt, with fmt's text TOLD by the authors' own Lean function (tested against real Go, not proved from fmt's source: count such statements apart). THE CARD IS WHAT COUNTS. Prove the row's statement (the work); the ties are given (YtepcpdionlfkhaaDoorTie.lean); close each card by the builder's one call (the guide's Derived/Test/ToyasCard.lean, 'card_holds'). Laid BY PROGRAM, IN A SANDBOX (cutbox-door.mjs). By AI agents, Wed Nov 11 2026. No macro, syntax, notation, axiom, sorry.
-/
import Derived.Test.YtepcpdionlfkhaaDoorRows
import GoSem.ClaimSeven
namespace Go.Proofs.YtepcpdionlfkhaaDoor
namespace Rows

/-- THE TIED CARD OF 'rovinglaw15.CopyingFolds'. -/
def copyingFoldsCard : Claim7 := { stood := { row := copyingFoldsRow, standIns := [], harness := (true, "362af5636f86b7f82afdc3a035f40eb28996602d22d17b95aed562d3e553cfe1"), looks := true }, kinds := [], alts := [], laidByText := true, laidKinds := [.handle], laidTests := true, laidLooks := .later }
def CopyingFoldsCardSaid : Prop := Claim7.holds Tryd.pinned (.plain (OpenSpec.ofChange copyingFoldsSpec)) copyingFoldsCard

/-- THE TIED CARD OF 'rovinglaw05.FileMends'. -/
def fileMendsCard : Claim7 := { stood := { row := fileMendsRow, standIns := [], harness := (true, "362af5636f86b7f82afdc3a035f40eb28996602d22d17b95aed562d3e553cfe1"), looks := true }, kinds := [], alts := [], laidByText := true, laidKinds := [.handle], laidTests := true, laidLooks := .later }
def FileMendsCardSaid : Prop := Claim7.holds Tryd.pinned (.plain (OpenSpec.ofChange fileMendsSpec)) fileMendsCard

/-- THE TIED CARD OF 'rovinglaw05.FileCrash'. -/
def fileCrashCard : Claim7 := { stood := { row := fileCrashRow, standIns := [], harness := (true, "362af5636f86b7f82afdc3a035f40eb28996602d22d17b95aed562d3e553cfe1"), looks := true }, kinds := [], alts := [], laidByText := true, laidKinds := [.handle], laidTests := true, laidLooks := .later }
def FileCrashCardSaid : Prop := Claim7.holds Tryd.pinned (.plain (OpenSpec.ofChange fileCrashSpec)) fileCrashCard

/-- THE TIED CARD OF 'rovinglaw12.InlineOrder'. -/
def inlineOrderCard : Claim7 := { stood := { row := inlineOrderRow, standIns := [], harness := (true, "362af5636f86b7f82afdc3a035f40eb28996602d22d17b95aed562d3e553cfe1"), looks := true }, kinds := [], alts := [], laidByText := true, laidKinds := [.handle], laidTests := true, laidLooks := .later }
def InlineOrderCardSaid : Prop := Claim7.holds Tryd.pinned (.plain (OpenSpec.ofChange inlineOrderSpec)) inlineOrderCard

/-- THE SECOND FORM's CARD OF 'rovinglaw15.CopyingFolds'. -/
def copyingFoldsUptoCard : Claim7 := { stood := { row := copyingFoldsUptoRow, standIns := [], harness := (true, "362af5636f86b7f82afdc3a035f40eb28996602d22d17b95aed562d3e553cfe1"), looks := true }, kinds := [], alts := [], laidByText := true, laidKinds := [.handle], laidTests := true, laidLooks := .later }
def CopyingFoldsUptoCardSaid : Prop := Claim7.holds Tryd.pinned (.plain (OpenSpec.upto copyingFoldsSpec)) copyingFoldsUptoCard

/-- THE SECOND FORM's CARD OF 'rovinglaw05.FileMends'. -/
def fileMendsUptoCard : Claim7 := { stood := { row := fileMendsUptoRow, standIns := [], harness := (true, "362af5636f86b7f82afdc3a035f40eb28996602d22d17b95aed562d3e553cfe1"), looks := true }, kinds := [], alts := [], laidByText := true, laidKinds := [.handle], laidTests := true, laidLooks := .later }
def FileMendsUptoCardSaid : Prop := Claim7.holds Tryd.pinned (.plain (OpenSpec.upto fileMendsSpec)) fileMendsUptoCard

/-- THE SECOND FORM's CARD OF 'rovinglaw05.FileCrash'. -/
def fileCrashUptoCard : Claim7 := { stood := { row := fileCrashUptoRow, standIns := [], harness := (true, "362af5636f86b7f82afdc3a035f40eb28996602d22d17b95aed562d3e553cfe1"), looks := true }, kinds := [], alts := [], laidByText := true, laidKinds := [.handle], laidTests := true, laidLooks := .later }
def FileCrashUptoCardSaid : Prop := Claim7.holds Tryd.pinned (.plain (OpenSpec.upto fileCrashSpec)) fileCrashUptoCard

/-- THE SECOND FORM's CARD OF 'rovinglaw12.InlineOrder'. -/
def inlineOrderUptoCard : Claim7 := { stood := { row := inlineOrderUptoRow, standIns := [], harness := (true, "362af5636f86b7f82afdc3a035f40eb28996602d22d17b95aed562d3e553cfe1"), looks := true }, kinds := [], alts := [], laidByText := true, laidKinds := [.handle], laidTests := true, laidLooks := .later }
def InlineOrderUptoCardSaid : Prop := Claim7.holds Tryd.pinned (.plain (OpenSpec.upto inlineOrderSpec)) inlineOrderUptoCard
end Rows
end Go.Proofs.YtepcpdionlfkhaaDoor
