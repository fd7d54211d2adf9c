/-
  DERIVED. GIVEN WITH THE SEED: THE CARDS: each row of YtafipkbffboebaaGreatDoorRows.lean that lists a variable, with what it lists TIED to the program's text (the seventh form; the later family's looks); each row that meets fmt, with fmt's text TOLD by the authors' own Lean function (tested against real Go, not proved from fmt's source: count such statements apart). THE CARD IS WHAT COUNTS. Prove the row's statement (the work); the ties are given (YtafipkbffboebaaGreatDoorTie.lean); close each card by the builder's one call (the guide's Derived/Test/ToyasCard.lean, 'card_holds'). Laid BY PROGRAM, IN A SANDBOX (cutbox-door.mjs). By AI agents, Wed Nov 11 2026. No macro, syntax, notation, axiom, sorry.
-/
import Derived.Test.YtafipkbffboebaaGreatDoorRows
import GoSem.ClaimSeven
namespace Go.Proofs.YtafipkbffboebaaGreatDoor
namespace Rows

/-- THE TIED CARD OF 'rovinglaw12.InlineTurns'. -/
def inlineTurnsCard : Claim7 := { stood := { row := inlineTurnsRow, standIns := [], harness := (true, "fabc9099ef94f10d29c5e5da427c9f2cbc9c9fd127b5419dbf9e20605bbef82c"), looks := true }, kinds := [], alts := [], laidByText := true, laidKinds := [.handle], laidTests := true, laidLooks := .later }
def InlineTurnsCardSaid : Prop := Claim7.holds Tryz.pinned (.plain (OpenSpec.ofChange inlineTurnsSpec)) inlineTurnsCard

/-- THE TIED CARD OF 'rovinglaw12.InlineFolds'. -/
def inlineFoldsCard : Claim7 := { stood := { row := inlineFoldsRow, standIns := [], harness := (true, "fabc9099ef94f10d29c5e5da427c9f2cbc9c9fd127b5419dbf9e20605bbef82c"), looks := true }, kinds := [], alts := [], laidByText := true, laidKinds := [.handle], laidTests := true, laidLooks := .later }
def InlineFoldsCardSaid : Prop := Claim7.holds Tryz.pinned (.plain (OpenSpec.ofChange inlineFoldsSpec)) inlineFoldsCard

/-- THE TIED CARD OF 'rovinglaw12.InlineNext'. -/
def inlineNextCard : Claim7 := { stood := { row := inlineNextRow, standIns := [], harness := (true, "fabc9099ef94f10d29c5e5da427c9f2cbc9c9fd127b5419dbf9e20605bbef82c"), looks := true }, kinds := [], alts := [], laidByText := true, laidKinds := [.handle], laidTests := true, laidLooks := .later }
def InlineNextCardSaid : Prop := Claim7.holds Tryz.pinned (.plain (OpenSpec.ofChange inlineNextSpec)) inlineNextCard

/-- THE TIED CARD OF 'rovinglaw12.InlineBack'. -/
def inlineBackCard : Claim7 := { stood := { row := inlineBackRow, standIns := [], harness := (true, "fabc9099ef94f10d29c5e5da427c9f2cbc9c9fd127b5419dbf9e20605bbef82c"), looks := true }, kinds := [], alts := [], laidByText := true, laidKinds := [.handle], laidTests := true, laidLooks := .later }
def InlineBackCardSaid : Prop := Claim7.holds Tryz.pinned (.plain (OpenSpec.ofChange inlineBackSpec)) inlineBackCard

/-- THE TIED CARD OF 'rovinglaw14.BufferWaits'. -/
def bufferWaitsCard : Claim7 := { stood := { row := bufferWaitsRow, standIns := [], harness := (true, "fabc9099ef94f10d29c5e5da427c9f2cbc9c9fd127b5419dbf9e20605bbef82c"), looks := true }, kinds := [], alts := [], laidByText := true, laidKinds := [.data, .data, .data, .handle], laidTests := true, laidLooks := .later }
def BufferWaitsCardSaid : Prop := Claim7.holds Tryz.pinned (.plain (OpenSpec.ofChange bufferWaitsSpec)) bufferWaitsCard

/-- THE TIED CARD OF 'rovinglaw14.BufferGaps'. -/
def bufferGapsCard : Claim7 := { stood := { row := bufferGapsRow, standIns := [], harness := (true, "fabc9099ef94f10d29c5e5da427c9f2cbc9c9fd127b5419dbf9e20605bbef82c"), looks := true }, kinds := [], alts := [], laidByText := true, laidKinds := [.data, .data, .data, .handle], laidTests := true, laidLooks := .later }
def BufferGapsCardSaid : Prop := Claim7.holds Tryz.pinned (.plain (OpenSpec.ofChange bufferGapsSpec)) bufferGapsCard

/-- THE TIED CARD OF 'rovinglaw14.BufferFolds'. -/
def bufferFoldsCard : Claim7 := { stood := { row := bufferFoldsRow, standIns := [], harness := (true, "fabc9099ef94f10d29c5e5da427c9f2cbc9c9fd127b5419dbf9e20605bbef82c"), looks := true }, kinds := [], alts := [], laidByText := true, laidKinds := [.data, .data, .data, .handle], laidTests := true, laidLooks := .later }
def BufferFoldsCardSaid : Prop := Claim7.holds Tryz.pinned (.plain (OpenSpec.ofChange bufferFoldsSpec)) bufferFoldsCard

/-- THE TIED CARD OF 'rovinglaw14.BufferBack'. -/
def bufferBackCard : Claim7 := { stood := { row := bufferBackRow, standIns := [], harness := (true, "fabc9099ef94f10d29c5e5da427c9f2cbc9c9fd127b5419dbf9e20605bbef82c"), looks := true }, kinds := [], alts := [], laidByText := true, laidKinds := [.data, .data, .data, .handle], laidTests := true, laidLooks := .later }
def BufferBackCardSaid : Prop := Claim7.holds Tryz.pinned (.plain (OpenSpec.ofChange bufferBackSpec)) bufferBackCard

/-- THE SECOND FORM's CARD OF 'rovinglaw12.InlineTurns'. -/
def inlineTurnsUptoCard : Claim7 := { stood := { row := inlineTurnsUptoRow, standIns := [], harness := (true, "fabc9099ef94f10d29c5e5da427c9f2cbc9c9fd127b5419dbf9e20605bbef82c"), looks := true }, kinds := [], alts := [], laidByText := true, laidKinds := [.handle], laidTests := true, laidLooks := .later }
def InlineTurnsUptoCardSaid : Prop := Claim7.holds Tryz.pinned (.plain (OpenSpec.upto inlineTurnsSpec)) inlineTurnsUptoCard

/-- THE SECOND FORM's CARD OF 'rovinglaw12.InlineFolds'. -/
def inlineFoldsUptoCard : Claim7 := { stood := { row := inlineFoldsUptoRow, standIns := [], harness := (true, "fabc9099ef94f10d29c5e5da427c9f2cbc9c9fd127b5419dbf9e20605bbef82c"), looks := true }, kinds := [], alts := [], laidByText := true, laidKinds := [.handle], laidTests := true, laidLooks := .later }
def InlineFoldsUptoCardSaid : Prop := Claim7.holds Tryz.pinned (.plain (OpenSpec.upto inlineFoldsSpec)) inlineFoldsUptoCard

/-- THE SECOND FORM's CARD OF 'rovinglaw12.InlineNext'. -/
def inlineNextUptoCard : Claim7 := { stood := { row := inlineNextUptoRow, standIns := [], harness := (true, "fabc9099ef94f10d29c5e5da427c9f2cbc9c9fd127b5419dbf9e20605bbef82c"), looks := true }, kinds := [], alts := [], laidByText := true, laidKinds := [.handle], laidTests := true, laidLooks := .later }
def InlineNextUptoCardSaid : Prop := Claim7.holds Tryz.pinned (.plain (OpenSpec.upto inlineNextSpec)) inlineNextUptoCard

/-- THE SECOND FORM's CARD OF 'rovinglaw12.InlineBack'. -/
def inlineBackUptoCard : Claim7 := { stood := { row := inlineBackUptoRow, standIns := [], harness := (true, "fabc9099ef94f10d29c5e5da427c9f2cbc9c9fd127b5419dbf9e20605bbef82c"), looks := true }, kinds := [], alts := [], laidByText := true, laidKinds := [.handle], laidTests := true, laidLooks := .later }
def InlineBackUptoCardSaid : Prop := Claim7.holds Tryz.pinned (.plain (OpenSpec.upto inlineBackSpec)) inlineBackUptoCard

/-- THE SECOND FORM's CARD OF 'rovinglaw14.BufferWaits'. -/
def bufferWaitsUptoCard : Claim7 := { stood := { row := bufferWaitsUptoRow, standIns := [], harness := (true, "fabc9099ef94f10d29c5e5da427c9f2cbc9c9fd127b5419dbf9e20605bbef82c"), looks := true }, kinds := [], alts := [], laidByText := true, laidKinds := [.data, .data, .data, .handle], laidTests := true, laidLooks := .later }
def BufferWaitsUptoCardSaid : Prop := Claim7.holds Tryz.pinned (.plain (OpenSpec.upto bufferWaitsSpec)) bufferWaitsUptoCard

/-- THE SECOND FORM's CARD OF 'rovinglaw14.BufferGaps'. -/
def bufferGapsUptoCard : Claim7 := { stood := { row := bufferGapsUptoRow, standIns := [], harness := (true, "fabc9099ef94f10d29c5e5da427c9f2cbc9c9fd127b5419dbf9e20605bbef82c"), looks := true }, kinds := [], alts := [], laidByText := true, laidKinds := [.data, .data, .data, .handle], laidTests := true, laidLooks := .later }
def BufferGapsUptoCardSaid : Prop := Claim7.holds Tryz.pinned (.plain (OpenSpec.upto bufferGapsSpec)) bufferGapsUptoCard

/-- THE SECOND FORM's CARD OF 'rovinglaw14.BufferFolds'. -/
def bufferFoldsUptoCard : Claim7 := { stood := { row := bufferFoldsUptoRow, standIns := [], harness := (true, "fabc9099ef94f10d29c5e5da427c9f2cbc9c9fd127b5419dbf9e20605bbef82c"), looks := true }, kinds := [], alts := [], laidByText := true, laidKinds := [.data, .data, .data, .handle], laidTests := true, laidLooks := .later }
def BufferFoldsUptoCardSaid : Prop := Claim7.holds Tryz.pinned (.plain (OpenSpec.upto bufferFoldsSpec)) bufferFoldsUptoCard

/-- THE SECOND FORM's CARD OF 'rovinglaw14.BufferBack'. -/
def bufferBackUptoCard : Claim7 := { stood := { row := bufferBackUptoRow, standIns := [], harness := (true, "fabc9099ef94f10d29c5e5da427c9f2cbc9c9fd127b5419dbf9e20605bbef82c"), looks := true }, kinds := [], alts := [], laidByText := true, laidKinds := [.data, .data, .data, .handle], laidTests := true, laidLooks := .later }
def BufferBackUptoCardSaid : Prop := Claim7.holds Tryz.pinned (.plain (OpenSpec.upto bufferBackSpec)) bufferBackUptoCard
end Rows
end Go.Proofs.YtafipkbffboebaaGreatDoor
