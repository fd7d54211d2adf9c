/-
  DERIVED. GIVEN WITH THE SEED: THE CARDS: each row of YtkmfmphpndhkjaaGreatDoorRows.lean that lists a variable, with what it lists TIED to the program's text (the seventh form; the later family's looks); each row that meets fmt, with fmt's text TOLD by the authors' own Lean function (tested against real Go, not proved from fmt's source: count such statements apart). THE CARD IS WHAT COUNTS. Prove the row's statement (the work); the ties are given (YtkmfmphpndhkjaaGreatDoorTie.lean); close each card by the builder's one call (the guide's Derived/Test/ToyasCard.lean, 'card_holds'). Laid BY PROGRAM, IN A SANDBOX (cutbox-door.mjs). By AI agents, Wed Nov 11 2026. No macro, syntax, notation, axiom, sorry.
-/
import Derived.Test.YtkmfmphpndhkjaaGreatDoorRows
import GoSem.ClaimSeven
namespace Go.Proofs.YtkmfmphpndhkjaaGreatDoor
namespace Rows

/-- THE TIED CARD OF 'rovinglaw27.ImageLags'. -/
def imageLagsCard : Claim7 := { stood := { row := imageLagsRow, standIns := [], harness := (true, "bce72c68973e13c6200f4ac53d3352f1a431009c173e9bb569818645a8cb9acb"), looks := true }, kinds := [], alts := [], laidByText := true, laidKinds := [.handle], laidTests := true, laidLooks := .later }
def ImageLagsCardSaid : Prop := Claim7.holds Tryz.pinned (.plain (OpenSpec.ofChange imageLagsSpec)) imageLagsCard

/-- THE TIED CARD OF 'rovinglaw27.ImageBare'. -/
def imageBareCard : Claim7 := { stood := { row := imageBareRow, standIns := [], harness := (true, "bce72c68973e13c6200f4ac53d3352f1a431009c173e9bb569818645a8cb9acb"), looks := true }, kinds := [], alts := [], laidByText := true, laidKinds := [.handle], laidTests := true, laidLooks := .later }
def ImageBareCardSaid : Prop := Claim7.holds Tryz.pinned (.plain (OpenSpec.ofChange imageBareSpec)) imageBareCard

/-- THE TIED CARD OF 'rovinglaw27.ImageMoved'. -/
def imageMovedCard : Claim7 := { stood := { row := imageMovedRow, standIns := [], harness := (true, "bce72c68973e13c6200f4ac53d3352f1a431009c173e9bb569818645a8cb9acb"), looks := true }, kinds := [], alts := [], laidByText := true, laidKinds := [.handle], laidTests := true, laidLooks := .later }
def ImageMovedCardSaid : Prop := Claim7.holds Tryz.pinned (.plain (OpenSpec.ofChange imageMovedSpec)) imageMovedCard

/-- THE TIED CARD OF 'rovinglaw27.ImageQuiet'. -/
def imageQuietCard : Claim7 := { stood := { row := imageQuietRow, standIns := [], harness := (true, "bce72c68973e13c6200f4ac53d3352f1a431009c173e9bb569818645a8cb9acb"), looks := true }, kinds := [], alts := [], laidByText := true, laidKinds := [.handle], laidTests := true, laidLooks := .later }
def ImageQuietCardSaid : Prop := Claim7.holds Tryz.pinned (.plain (OpenSpec.ofChange imageQuietSpec)) imageQuietCard

/-- THE SECOND FORM's CARD OF 'rovinglaw27.ImageLags'. -/
def imageLagsUptoCard : Claim7 := { stood := { row := imageLagsUptoRow, standIns := [], harness := (true, "bce72c68973e13c6200f4ac53d3352f1a431009c173e9bb569818645a8cb9acb"), looks := true }, kinds := [], alts := [], laidByText := true, laidKinds := [.handle], laidTests := true, laidLooks := .later }
def ImageLagsUptoCardSaid : Prop := Claim7.holds Tryz.pinned (.plain (OpenSpec.upto imageLagsSpec)) imageLagsUptoCard

/-- THE SECOND FORM's CARD OF 'rovinglaw27.ImageBare'. -/
def imageBareUptoCard : Claim7 := { stood := { row := imageBareUptoRow, standIns := [], harness := (true, "bce72c68973e13c6200f4ac53d3352f1a431009c173e9bb569818645a8cb9acb"), looks := true }, kinds := [], alts := [], laidByText := true, laidKinds := [.handle], laidTests := true, laidLooks := .later }
def ImageBareUptoCardSaid : Prop := Claim7.holds Tryz.pinned (.plain (OpenSpec.upto imageBareSpec)) imageBareUptoCard

/-- THE SECOND FORM's CARD OF 'rovinglaw27.ImageMoved'. -/
def imageMovedUptoCard : Claim7 := { stood := { row := imageMovedUptoRow, standIns := [], harness := (true, "bce72c68973e13c6200f4ac53d3352f1a431009c173e9bb569818645a8cb9acb"), looks := true }, kinds := [], alts := [], laidByText := true, laidKinds := [.handle], laidTests := true, laidLooks := .later }
def ImageMovedUptoCardSaid : Prop := Claim7.holds Tryz.pinned (.plain (OpenSpec.upto imageMovedSpec)) imageMovedUptoCard

/-- THE SECOND FORM's CARD OF 'rovinglaw27.ImageQuiet'. -/
def imageQuietUptoCard : Claim7 := { stood := { row := imageQuietUptoRow, standIns := [], harness := (true, "bce72c68973e13c6200f4ac53d3352f1a431009c173e9bb569818645a8cb9acb"), looks := true }, kinds := [], alts := [], laidByText := true, laidKinds := [.handle], laidTests := true, laidLooks := .later }
def ImageQuietUptoCardSaid : Prop := Claim7.holds Tryz.pinned (.plain (OpenSpec.upto imageQuietSpec)) imageQuietUptoCard
end Rows
end Go.Proofs.YtkmfmphpndhkjaaGreatDoor
