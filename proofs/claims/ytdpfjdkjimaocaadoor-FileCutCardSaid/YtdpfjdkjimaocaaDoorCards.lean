/-
  DERIVED. GIVEN WITH THE SEED: THE CARDS: each row of YtdpfjdkjimaocaaDoorRows.lean that lists a variable, with what it lists TIED to the program's text (the seventh form; the later family's looks); each row that meets fmt, with fmt's text TOLD by the authors' own Lean function (tested against real Go, not proved from fmt's source: count such statements apart). THE CARD IS WHAT COUNTS. Prove the row's statement (the work); the ties are given (YtdpfjdkjimaocaaDoorTie.lean); close each card by the builder's one call (the guide's Derived/Test/ToyasCard.lean, 'card_holds'). Laid BY PROGRAM, IN A SANDBOX (cutbox-door.mjs). By AI agents, Wed Nov 11 2026. No macro, syntax, notation, axiom, sorry.
-/
import Derived.Test.YtdpfjdkjimaocaaDoorRows
import GoSem.ClaimSeven
namespace Go.Proofs.YtdpfjdkjimaocaaDoor
namespace Rows

/-- THE TIED CARD OF 'rovinglaw03.DiskSure'. -/
def diskSureCard : Claim7 := { stood := { row := diskSureRow, standIns := [], harness := (true, "c027451fa8707bc7b4fbdd27a9e1b089dce6dd577cfaf8085b2b4a839a32cfa1"), looks := true }, kinds := [], alts := [], laidByText := true, laidKinds := [.handle], laidTests := true, laidLooks := .later }
def DiskSureCardSaid : Prop := Claim7.holds Tryd.pinned (.plain (OpenSpec.ofChange diskSureSpec)) diskSureCard

/-- THE TIED CARD OF 'rovinglaw16.RoomMore'. -/
def roomMoreCard : Claim7 := { stood := { row := roomMoreRow, standIns := [], harness := (true, "c027451fa8707bc7b4fbdd27a9e1b089dce6dd577cfaf8085b2b4a839a32cfa1"), looks := true }, kinds := [], alts := [], laidByText := true, laidKinds := [.handle], laidTests := true, laidLooks := .later }
def RoomMoreCardSaid : Prop := Claim7.holds Tryd.pinned (.plain (OpenSpec.ofChange roomMoreSpec)) roomMoreCard

/-- THE TIED CARD OF 'rovinglaw16.RoomDone'. -/
def roomDoneCard : Claim7 := { stood := { row := roomDoneRow, standIns := [], harness := (true, "c027451fa8707bc7b4fbdd27a9e1b089dce6dd577cfaf8085b2b4a839a32cfa1"), looks := true }, kinds := [], alts := [], laidByText := true, laidKinds := [.handle], laidTests := true, laidLooks := .later }
def RoomDoneCardSaid : Prop := Claim7.holds Tryd.pinned (.plain (OpenSpec.ofChange roomDoneSpec)) roomDoneCard

/-- THE TIED CARD OF 'rovinglaw05.FileLoads'. -/
def fileLoadsCard : Claim7 := { stood := { row := fileLoadsRow, standIns := [], harness := (true, "c027451fa8707bc7b4fbdd27a9e1b089dce6dd577cfaf8085b2b4a839a32cfa1"), looks := true }, kinds := [], alts := [], laidByText := true, laidKinds := [.handle], laidTests := true, laidLooks := .later }
def FileLoadsCardSaid : Prop := Claim7.holds Tryd.pinned (.plain (OpenSpec.ofChange fileLoadsSpec)) fileLoadsCard

/-- THE TIED CARD OF 'rovinglaw05.FileCut'. -/
def fileCutCard : Claim7 := { stood := { row := fileCutRow, standIns := [], harness := (true, "c027451fa8707bc7b4fbdd27a9e1b089dce6dd577cfaf8085b2b4a839a32cfa1"), looks := true }, kinds := [], alts := [], laidByText := true, laidKinds := [.handle], laidTests := true, laidLooks := .later }
def FileCutCardSaid : Prop := Claim7.holds Tryd.pinned (.plain (OpenSpec.ofChange fileCutSpec)) fileCutCard

/-- THE TIED CARD OF 'rovinglaw05.FileMends'. -/
def fileMendsCard : Claim7 := { stood := { row := fileMendsRow, standIns := [], harness := (true, "c027451fa8707bc7b4fbdd27a9e1b089dce6dd577cfaf8085b2b4a839a32cfa1"), looks := true }, kinds := [], alts := [], laidByText := true, laidKinds := [.handle], laidTests := true, laidLooks := .later }
def FileMendsCardSaid : Prop := Claim7.holds Tryd.pinned (.plain (OpenSpec.ofChange fileMendsSpec)) fileMendsCard

/-- THE TIED CARD OF 'rovinglaw05.FileCrash'. -/
def fileCrashCard : Claim7 := { stood := { row := fileCrashRow, standIns := [], harness := (true, "c027451fa8707bc7b4fbdd27a9e1b089dce6dd577cfaf8085b2b4a839a32cfa1"), looks := true }, kinds := [], alts := [], laidByText := true, laidKinds := [.handle], laidTests := true, laidLooks := .later }
def FileCrashCardSaid : Prop := Claim7.holds Tryd.pinned (.plain (OpenSpec.ofChange fileCrashSpec)) fileCrashCard

/-- THE SECOND FORM's CARD OF 'rovinglaw03.DiskSure'. -/
def diskSureUptoCard : Claim7 := { stood := { row := diskSureUptoRow, standIns := [], harness := (true, "c027451fa8707bc7b4fbdd27a9e1b089dce6dd577cfaf8085b2b4a839a32cfa1"), looks := true }, kinds := [], alts := [], laidByText := true, laidKinds := [.handle], laidTests := true, laidLooks := .later }
def DiskSureUptoCardSaid : Prop := Claim7.holds Tryd.pinned (.plain (OpenSpec.upto diskSureSpec)) diskSureUptoCard

/-- THE SECOND FORM's CARD OF 'rovinglaw16.RoomMore'. -/
def roomMoreUptoCard : Claim7 := { stood := { row := roomMoreUptoRow, standIns := [], harness := (true, "c027451fa8707bc7b4fbdd27a9e1b089dce6dd577cfaf8085b2b4a839a32cfa1"), looks := true }, kinds := [], alts := [], laidByText := true, laidKinds := [.handle], laidTests := true, laidLooks := .later }
def RoomMoreUptoCardSaid : Prop := Claim7.holds Tryd.pinned (.plain (OpenSpec.upto roomMoreSpec)) roomMoreUptoCard

/-- THE SECOND FORM's CARD OF 'rovinglaw16.RoomDone'. -/
def roomDoneUptoCard : Claim7 := { stood := { row := roomDoneUptoRow, standIns := [], harness := (true, "c027451fa8707bc7b4fbdd27a9e1b089dce6dd577cfaf8085b2b4a839a32cfa1"), looks := true }, kinds := [], alts := [], laidByText := true, laidKinds := [.handle], laidTests := true, laidLooks := .later }
def RoomDoneUptoCardSaid : Prop := Claim7.holds Tryd.pinned (.plain (OpenSpec.upto roomDoneSpec)) roomDoneUptoCard

/-- THE SECOND FORM's CARD OF 'rovinglaw05.FileLoads'. -/
def fileLoadsUptoCard : Claim7 := { stood := { row := fileLoadsUptoRow, standIns := [], harness := (true, "c027451fa8707bc7b4fbdd27a9e1b089dce6dd577cfaf8085b2b4a839a32cfa1"), looks := true }, kinds := [], alts := [], laidByText := true, laidKinds := [.handle], laidTests := true, laidLooks := .later }
def FileLoadsUptoCardSaid : Prop := Claim7.holds Tryd.pinned (.plain (OpenSpec.upto fileLoadsSpec)) fileLoadsUptoCard

/-- THE SECOND FORM's CARD OF 'rovinglaw05.FileCut'. -/
def fileCutUptoCard : Claim7 := { stood := { row := fileCutUptoRow, standIns := [], harness := (true, "c027451fa8707bc7b4fbdd27a9e1b089dce6dd577cfaf8085b2b4a839a32cfa1"), looks := true }, kinds := [], alts := [], laidByText := true, laidKinds := [.handle], laidTests := true, laidLooks := .later }
def FileCutUptoCardSaid : Prop := Claim7.holds Tryd.pinned (.plain (OpenSpec.upto fileCutSpec)) fileCutUptoCard

/-- THE SECOND FORM's CARD OF 'rovinglaw05.FileMends'. -/
def fileMendsUptoCard : Claim7 := { stood := { row := fileMendsUptoRow, standIns := [], harness := (true, "c027451fa8707bc7b4fbdd27a9e1b089dce6dd577cfaf8085b2b4a839a32cfa1"), looks := true }, kinds := [], alts := [], laidByText := true, laidKinds := [.handle], laidTests := true, laidLooks := .later }
def FileMendsUptoCardSaid : Prop := Claim7.holds Tryd.pinned (.plain (OpenSpec.upto fileMendsSpec)) fileMendsUptoCard

/-- THE SECOND FORM's CARD OF 'rovinglaw05.FileCrash'. -/
def fileCrashUptoCard : Claim7 := { stood := { row := fileCrashUptoRow, standIns := [], harness := (true, "c027451fa8707bc7b4fbdd27a9e1b089dce6dd577cfaf8085b2b4a839a32cfa1"), looks := true }, kinds := [], alts := [], laidByText := true, laidKinds := [.handle], laidTests := true, laidLooks := .later }
def FileCrashUptoCardSaid : Prop := Claim7.holds Tryd.pinned (.plain (OpenSpec.upto fileCrashSpec)) fileCrashUptoCard
end Rows
end Go.Proofs.YtdpfjdkjimaocaaDoor
