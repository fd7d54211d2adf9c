/-
  DERIVED. GIVEN WITH THE SEED: THE CARDS: each row of YtpklhnpchhaccaaGreatDoorRows.lean that lists a variable, with what it lists TIED to the program's text (the seventh form; the later family's looks); each row that meets fmt, with fmt's text TOLD by the authors' own Lean function (tested against real Go, not proved from fmt's source: count such statements apart). THE CARD IS WHAT COUNTS. Prove the row's statement (the work); the ties are given (YtpklhnpchhaccaaGreatDoorTie.lean); close each card by the builder's one call (the guide's Derived/Test/ToyasCard.lean, 'card_holds'). Laid BY PROGRAM, IN A SANDBOX (cutbox-door.mjs). By AI agents, Wed Nov 11 2026. No macro, syntax, notation, axiom, sorry.
-/
import Derived.Test.YtpklhnpchhaccaaGreatDoorRows
import GoSem.ClaimSeven
namespace Go.Proofs.YtpklhnpchhaccaaGreatDoor
namespace Rows

/-- THE TIED CARD OF 'rovinglaw27.ImageLags'. -/
def imageLagsCard : Claim7 := { stood := { row := imageLagsRow, standIns := [], harness := (true, "84c58edcd1721b487f6eb455b1fd35d153ca34d27c5c2ccbdbc446cdd2d7fc8d"), looks := true }, kinds := [], alts := [], laidByText := true, laidKinds := [.handle], laidTests := true, laidLooks := .later }
def ImageLagsCardSaid : Prop := Claim7.holds Tryz.pinned (.plain (OpenSpec.ofChange imageLagsSpec)) imageLagsCard

/-- THE TIED CARD OF 'rovinglaw27.ImageBare'. -/
def imageBareCard : Claim7 := { stood := { row := imageBareRow, standIns := [], harness := (true, "84c58edcd1721b487f6eb455b1fd35d153ca34d27c5c2ccbdbc446cdd2d7fc8d"), looks := true }, kinds := [], alts := [], laidByText := true, laidKinds := [.handle], laidTests := true, laidLooks := .later }
def ImageBareCardSaid : Prop := Claim7.holds Tryz.pinned (.plain (OpenSpec.ofChange imageBareSpec)) imageBareCard

/-- THE TIED CARD OF 'rovinglaw27.ImageMoved'. -/
def imageMovedCard : Claim7 := { stood := { row := imageMovedRow, standIns := [], harness := (true, "84c58edcd1721b487f6eb455b1fd35d153ca34d27c5c2ccbdbc446cdd2d7fc8d"), looks := true }, kinds := [], alts := [], laidByText := true, laidKinds := [.handle], laidTests := true, laidLooks := .later }
def ImageMovedCardSaid : Prop := Claim7.holds Tryz.pinned (.plain (OpenSpec.ofChange imageMovedSpec)) imageMovedCard

/-- THE TIED CARD OF 'rovinglaw14.BufferWaits'. -/
def bufferWaitsCard : Claim7 := { stood := { row := bufferWaitsRow, standIns := [], harness := (true, "84c58edcd1721b487f6eb455b1fd35d153ca34d27c5c2ccbdbc446cdd2d7fc8d"), looks := true }, kinds := [], alts := [], laidByText := true, laidKinds := [.data, .data, .data, .handle], laidTests := true, laidLooks := .later }
def BufferWaitsCardSaid : Prop := Claim7.holds Tryz.pinned (.plain (OpenSpec.ofChange bufferWaitsSpec)) bufferWaitsCard

/-- THE TIED CARD OF 'rovinglaw14.BufferGaps'. -/
def bufferGapsCard : Claim7 := { stood := { row := bufferGapsRow, standIns := [], harness := (true, "84c58edcd1721b487f6eb455b1fd35d153ca34d27c5c2ccbdbc446cdd2d7fc8d"), looks := true }, kinds := [], alts := [], laidByText := true, laidKinds := [.data, .data, .data, .handle], laidTests := true, laidLooks := .later }
def BufferGapsCardSaid : Prop := Claim7.holds Tryz.pinned (.plain (OpenSpec.ofChange bufferGapsSpec)) bufferGapsCard

/-- THE TIED CARD OF 'rovinglaw14.BufferFolds'. -/
def bufferFoldsCard : Claim7 := { stood := { row := bufferFoldsRow, standIns := [], harness := (true, "84c58edcd1721b487f6eb455b1fd35d153ca34d27c5c2ccbdbc446cdd2d7fc8d"), looks := true }, kinds := [], alts := [], laidByText := true, laidKinds := [.data, .data, .data, .handle], laidTests := true, laidLooks := .later }
def BufferFoldsCardSaid : Prop := Claim7.holds Tryz.pinned (.plain (OpenSpec.ofChange bufferFoldsSpec)) bufferFoldsCard

/-- THE TIED CARD OF 'rovinglaw14.BufferBack'. -/
def bufferBackCard : Claim7 := { stood := { row := bufferBackRow, standIns := [], harness := (true, "84c58edcd1721b487f6eb455b1fd35d153ca34d27c5c2ccbdbc446cdd2d7fc8d"), looks := true }, kinds := [], alts := [], laidByText := true, laidKinds := [.data, .data, .data, .handle], laidTests := true, laidLooks := .later }
def BufferBackCardSaid : Prop := Claim7.holds Tryz.pinned (.plain (OpenSpec.ofChange bufferBackSpec)) bufferBackCard

/-- THE TIED CARD OF 'rovinglaw27.ImageQuiet'. -/
def imageQuietCard : Claim7 := { stood := { row := imageQuietRow, standIns := [], harness := (true, "84c58edcd1721b487f6eb455b1fd35d153ca34d27c5c2ccbdbc446cdd2d7fc8d"), looks := true }, kinds := [], alts := [], laidByText := true, laidKinds := [.handle], laidTests := true, laidLooks := .later }
def ImageQuietCardSaid : Prop := Claim7.holds Tryz.pinned (.plain (OpenSpec.ofChange imageQuietSpec)) imageQuietCard

/-- THE SECOND FORM's CARD OF 'rovinglaw27.ImageLags'. -/
def imageLagsUptoCard : Claim7 := { stood := { row := imageLagsUptoRow, standIns := [], harness := (true, "84c58edcd1721b487f6eb455b1fd35d153ca34d27c5c2ccbdbc446cdd2d7fc8d"), looks := true }, kinds := [], alts := [], laidByText := true, laidKinds := [.handle], laidTests := true, laidLooks := .later }
def ImageLagsUptoCardSaid : Prop := Claim7.holds Tryz.pinned (.plain (OpenSpec.upto imageLagsSpec)) imageLagsUptoCard

/-- THE SECOND FORM's CARD OF 'rovinglaw27.ImageBare'. -/
def imageBareUptoCard : Claim7 := { stood := { row := imageBareUptoRow, standIns := [], harness := (true, "84c58edcd1721b487f6eb455b1fd35d153ca34d27c5c2ccbdbc446cdd2d7fc8d"), looks := true }, kinds := [], alts := [], laidByText := true, laidKinds := [.handle], laidTests := true, laidLooks := .later }
def ImageBareUptoCardSaid : Prop := Claim7.holds Tryz.pinned (.plain (OpenSpec.upto imageBareSpec)) imageBareUptoCard

/-- THE SECOND FORM's CARD OF 'rovinglaw27.ImageMoved'. -/
def imageMovedUptoCard : Claim7 := { stood := { row := imageMovedUptoRow, standIns := [], harness := (true, "84c58edcd1721b487f6eb455b1fd35d153ca34d27c5c2ccbdbc446cdd2d7fc8d"), looks := true }, kinds := [], alts := [], laidByText := true, laidKinds := [.handle], laidTests := true, laidLooks := .later }
def ImageMovedUptoCardSaid : Prop := Claim7.holds Tryz.pinned (.plain (OpenSpec.upto imageMovedSpec)) imageMovedUptoCard

/-- THE SECOND FORM's CARD OF 'rovinglaw14.BufferWaits'. -/
def bufferWaitsUptoCard : Claim7 := { stood := { row := bufferWaitsUptoRow, standIns := [], harness := (true, "84c58edcd1721b487f6eb455b1fd35d153ca34d27c5c2ccbdbc446cdd2d7fc8d"), looks := true }, kinds := [], alts := [], laidByText := true, laidKinds := [.data, .data, .data, .handle], laidTests := true, laidLooks := .later }
def BufferWaitsUptoCardSaid : Prop := Claim7.holds Tryz.pinned (.plain (OpenSpec.upto bufferWaitsSpec)) bufferWaitsUptoCard

/-- THE SECOND FORM's CARD OF 'rovinglaw14.BufferGaps'. -/
def bufferGapsUptoCard : Claim7 := { stood := { row := bufferGapsUptoRow, standIns := [], harness := (true, "84c58edcd1721b487f6eb455b1fd35d153ca34d27c5c2ccbdbc446cdd2d7fc8d"), looks := true }, kinds := [], alts := [], laidByText := true, laidKinds := [.data, .data, .data, .handle], laidTests := true, laidLooks := .later }
def BufferGapsUptoCardSaid : Prop := Claim7.holds Tryz.pinned (.plain (OpenSpec.upto bufferGapsSpec)) bufferGapsUptoCard

/-- THE SECOND FORM's CARD OF 'rovinglaw14.BufferFolds'. -/
def bufferFoldsUptoCard : Claim7 := { stood := { row := bufferFoldsUptoRow, standIns := [], harness := (true, "84c58edcd1721b487f6eb455b1fd35d153ca34d27c5c2ccbdbc446cdd2d7fc8d"), looks := true }, kinds := [], alts := [], laidByText := true, laidKinds := [.data, .data, .data, .handle], laidTests := true, laidLooks := .later }
def BufferFoldsUptoCardSaid : Prop := Claim7.holds Tryz.pinned (.plain (OpenSpec.upto bufferFoldsSpec)) bufferFoldsUptoCard

/-- THE SECOND FORM's CARD OF 'rovinglaw14.BufferBack'. -/
def bufferBackUptoCard : Claim7 := { stood := { row := bufferBackUptoRow, standIns := [], harness := (true, "84c58edcd1721b487f6eb455b1fd35d153ca34d27c5c2ccbdbc446cdd2d7fc8d"), looks := true }, kinds := [], alts := [], laidByText := true, laidKinds := [.data, .data, .data, .handle], laidTests := true, laidLooks := .later }
def BufferBackUptoCardSaid : Prop := Claim7.holds Tryz.pinned (.plain (OpenSpec.upto bufferBackSpec)) bufferBackUptoCard

/-- THE SECOND FORM's CARD OF 'rovinglaw27.ImageQuiet'. -/
def imageQuietUptoCard : Claim7 := { stood := { row := imageQuietUptoRow, standIns := [], harness := (true, "84c58edcd1721b487f6eb455b1fd35d153ca34d27c5c2ccbdbc446cdd2d7fc8d"), looks := true }, kinds := [], alts := [], laidByText := true, laidKinds := [.handle], laidTests := true, laidLooks := .later }
def ImageQuietUptoCardSaid : Prop := Claim7.holds Tryz.pinned (.plain (OpenSpec.upto imageQuietSpec)) imageQuietUptoCard
end Rows
end Go.Proofs.YtpklhnpchhaccaaGreatDoor
