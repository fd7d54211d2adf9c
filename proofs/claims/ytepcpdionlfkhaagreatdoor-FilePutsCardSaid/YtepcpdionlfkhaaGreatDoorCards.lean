/-
  DERIVED. GIVEN WITH THE SEED: THE CARDS: each row of YtepcpdionlfkhaaGreatDoorRows.lean that lists a variable, with what it lists TIED to the program's text (the seventh form; the later family's looks); each row that meets fmt, with fmt's text TOLD by the authors' own Lean function (tested against real Go, not proved from fmt's source: count such statements apart). THE CARD IS WHAT COUNTS. Prove the row's statement (the work); the ties are given (YtepcpdionlfkhaaGreatDoorTie.lean); close each card by the builder's one call (the guide's Derived/Test/ToyasCard.lean, 'card_holds'). Laid BY PROGRAM, IN A SANDBOX (cutbox-door.mjs). By AI agents, Wed Nov 11 2026. No macro, syntax, notation, axiom, sorry.
-/
import Derived.Test.YtepcpdionlfkhaaGreatDoorRows
import GoSem.ClaimSeven
namespace Go.Proofs.YtepcpdionlfkhaaGreatDoor
namespace Rows

/-- THE TIED CARD OF 'rovinglaw12.InlineTurns'. -/
def inlineTurnsCard : Claim7 := { stood := { row := inlineTurnsRow, standIns := [], harness := (true, "41454056a2601c29da4998ee8383878847ac26e46fa1652a139e1ccb6fcc2ac3"), looks := true }, kinds := [], alts := [], laidByText := true, laidKinds := [.handle], laidTests := true, laidLooks := .later }
def InlineTurnsCardSaid : Prop := Claim7.holds Tryz.pinned (.plain (OpenSpec.ofChange inlineTurnsSpec)) inlineTurnsCard

/-- THE TIED CARD OF 'rovinglaw05.FileDoes'. -/
def fileDoesCard : Claim7 := { stood := { row := fileDoesRow, standIns := [], harness := (true, "41454056a2601c29da4998ee8383878847ac26e46fa1652a139e1ccb6fcc2ac3"), looks := true }, kinds := [], alts := [], laidByText := true, laidKinds := [.data, .data, .data, .handle], laidTests := true, laidLooks := .later }
def FileDoesCardSaid : Prop := Claim7.holds Tryz.pinned (.plain (OpenSpec.ofChange fileDoesSpec)) fileDoesCard

/-- THE TIED CARD OF 'rovinglaw05.FilePuts'. -/
def filePutsCard : Claim7 := { stood := { row := filePutsRow, standIns := [], harness := (true, "41454056a2601c29da4998ee8383878847ac26e46fa1652a139e1ccb6fcc2ac3"), looks := true }, kinds := [], alts := [], laidByText := true, laidKinds := [.data, .data, .data, .handle], laidTests := true, laidLooks := .later }
def FilePutsCardSaid : Prop := Claim7.holds Tryz.pinned (.plain (OpenSpec.ofChange filePutsSpec)) filePutsCard

/-- THE TIED CARD OF 'rovinglaw12.InlineFolds'. -/
def inlineFoldsCard : Claim7 := { stood := { row := inlineFoldsRow, standIns := [], harness := (true, "41454056a2601c29da4998ee8383878847ac26e46fa1652a139e1ccb6fcc2ac3"), looks := true }, kinds := [], alts := [], laidByText := true, laidKinds := [.handle], laidTests := true, laidLooks := .later }
def InlineFoldsCardSaid : Prop := Claim7.holds Tryz.pinned (.plain (OpenSpec.ofChange inlineFoldsSpec)) inlineFoldsCard

/-- THE TIED CARD OF 'rovinglaw12.InlineNext'. -/
def inlineNextCard : Claim7 := { stood := { row := inlineNextRow, standIns := [], harness := (true, "41454056a2601c29da4998ee8383878847ac26e46fa1652a139e1ccb6fcc2ac3"), looks := true }, kinds := [], alts := [], laidByText := true, laidKinds := [.handle], laidTests := true, laidLooks := .later }
def InlineNextCardSaid : Prop := Claim7.holds Tryz.pinned (.plain (OpenSpec.ofChange inlineNextSpec)) inlineNextCard

/-- THE TIED CARD OF 'rovinglaw12.InlineBack'. -/
def inlineBackCard : Claim7 := { stood := { row := inlineBackRow, standIns := [], harness := (true, "41454056a2601c29da4998ee8383878847ac26e46fa1652a139e1ccb6fcc2ac3"), looks := true }, kinds := [], alts := [], laidByText := true, laidKinds := [.handle], laidTests := true, laidLooks := .later }
def InlineBackCardSaid : Prop := Claim7.holds Tryz.pinned (.plain (OpenSpec.ofChange inlineBackSpec)) inlineBackCard

/-- THE SECOND FORM's CARD OF 'rovinglaw12.InlineTurns'. -/
def inlineTurnsUptoCard : Claim7 := { stood := { row := inlineTurnsUptoRow, standIns := [], harness := (true, "41454056a2601c29da4998ee8383878847ac26e46fa1652a139e1ccb6fcc2ac3"), looks := true }, kinds := [], alts := [], laidByText := true, laidKinds := [.handle], laidTests := true, laidLooks := .later }
def InlineTurnsUptoCardSaid : Prop := Claim7.holds Tryz.pinned (.plain (OpenSpec.upto inlineTurnsSpec)) inlineTurnsUptoCard

/-- THE SECOND FORM's CARD OF 'rovinglaw05.FileDoes'. -/
def fileDoesUptoCard : Claim7 := { stood := { row := fileDoesUptoRow, standIns := [], harness := (true, "41454056a2601c29da4998ee8383878847ac26e46fa1652a139e1ccb6fcc2ac3"), looks := true }, kinds := [], alts := [], laidByText := true, laidKinds := [.data, .data, .data, .handle], laidTests := true, laidLooks := .later }
def FileDoesUptoCardSaid : Prop := Claim7.holds Tryz.pinned (.plain (OpenSpec.upto fileDoesSpec)) fileDoesUptoCard

/-- THE SECOND FORM's CARD OF 'rovinglaw05.FilePuts'. -/
def filePutsUptoCard : Claim7 := { stood := { row := filePutsUptoRow, standIns := [], harness := (true, "41454056a2601c29da4998ee8383878847ac26e46fa1652a139e1ccb6fcc2ac3"), looks := true }, kinds := [], alts := [], laidByText := true, laidKinds := [.data, .data, .data, .handle], laidTests := true, laidLooks := .later }
def FilePutsUptoCardSaid : Prop := Claim7.holds Tryz.pinned (.plain (OpenSpec.upto filePutsSpec)) filePutsUptoCard

/-- THE SECOND FORM's CARD OF 'rovinglaw12.InlineFolds'. -/
def inlineFoldsUptoCard : Claim7 := { stood := { row := inlineFoldsUptoRow, standIns := [], harness := (true, "41454056a2601c29da4998ee8383878847ac26e46fa1652a139e1ccb6fcc2ac3"), looks := true }, kinds := [], alts := [], laidByText := true, laidKinds := [.handle], laidTests := true, laidLooks := .later }
def InlineFoldsUptoCardSaid : Prop := Claim7.holds Tryz.pinned (.plain (OpenSpec.upto inlineFoldsSpec)) inlineFoldsUptoCard

/-- THE SECOND FORM's CARD OF 'rovinglaw12.InlineNext'. -/
def inlineNextUptoCard : Claim7 := { stood := { row := inlineNextUptoRow, standIns := [], harness := (true, "41454056a2601c29da4998ee8383878847ac26e46fa1652a139e1ccb6fcc2ac3"), looks := true }, kinds := [], alts := [], laidByText := true, laidKinds := [.handle], laidTests := true, laidLooks := .later }
def InlineNextUptoCardSaid : Prop := Claim7.holds Tryz.pinned (.plain (OpenSpec.upto inlineNextSpec)) inlineNextUptoCard

/-- THE SECOND FORM's CARD OF 'rovinglaw12.InlineBack'. -/
def inlineBackUptoCard : Claim7 := { stood := { row := inlineBackUptoRow, standIns := [], harness := (true, "41454056a2601c29da4998ee8383878847ac26e46fa1652a139e1ccb6fcc2ac3"), looks := true }, kinds := [], alts := [], laidByText := true, laidKinds := [.handle], laidTests := true, laidLooks := .later }
def InlineBackUptoCardSaid : Prop := Claim7.holds Tryz.pinned (.plain (OpenSpec.upto inlineBackSpec)) inlineBackUptoCard
end Rows
end Go.Proofs.YtepcpdionlfkhaaGreatDoor
