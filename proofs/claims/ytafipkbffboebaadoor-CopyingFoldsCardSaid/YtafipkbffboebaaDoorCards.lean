/-
  DERIVED. GIVEN WITH THE SEED: THE CARDS: each row of YtafipkbffboebaaDoorRows.lean that lists a variable, with what it lists TIED to the program's text (the seventh form; the later family's looks); each row that meets fmt, with fmt's text TOLD by the authors' own Lean function (tested against real Go, not proved from fmt's source: count such statements apart). THE CARD IS WHAT COUNTS. Prove the row's statement (the work); the ties are given (YtafipkbffboebaaDoorTie.lean); close each card by the builder's one call (the guide's Derived/Test/ToyasCard.lean, 'card_holds'). Laid BY PROGRAM, IN A SANDBOX (cutbox-door.mjs). By AI agents, Wed Nov 11 2026. No macro, syntax, notation, axiom, sorry.
-/
import Derived.Test.YtafipkbffboebaaDoorRows
import GoSem.ClaimSeven
namespace Go.Proofs.YtafipkbffboebaaDoor
namespace Rows

/-- THE TIED CARD OF 'rovinglaw15.CopyingFolds'. -/
def copyingFoldsCard : Claim7 := { stood := { row := copyingFoldsRow, standIns := [], harness := (true, "7f706719c69dc4b0603c4679a11ef5274736b24970f50c6dea0c198c1ac6f3b3"), looks := true }, kinds := [], alts := [], laidByText := true, laidKinds := [.handle], laidTests := true, laidLooks := .later }
def CopyingFoldsCardSaid : Prop := Claim7.holds Tryd.pinned (.plain (OpenSpec.ofChange copyingFoldsSpec)) copyingFoldsCard

/-- THE TIED CARD OF 'rovinglaw12.InlineOrder'. -/
def inlineOrderCard : Claim7 := { stood := { row := inlineOrderRow, standIns := [], harness := (true, "7f706719c69dc4b0603c4679a11ef5274736b24970f50c6dea0c198c1ac6f3b3"), looks := true }, kinds := [], alts := [], laidByText := true, laidKinds := [.handle], laidTests := true, laidLooks := .later }
def InlineOrderCardSaid : Prop := Claim7.holds Tryd.pinned (.plain (OpenSpec.ofChange inlineOrderSpec)) inlineOrderCard

/-- THE SECOND FORM's CARD OF 'rovinglaw15.CopyingFolds'. -/
def copyingFoldsUptoCard : Claim7 := { stood := { row := copyingFoldsUptoRow, standIns := [], harness := (true, "7f706719c69dc4b0603c4679a11ef5274736b24970f50c6dea0c198c1ac6f3b3"), looks := true }, kinds := [], alts := [], laidByText := true, laidKinds := [.handle], laidTests := true, laidLooks := .later }
def CopyingFoldsUptoCardSaid : Prop := Claim7.holds Tryd.pinned (.plain (OpenSpec.upto copyingFoldsSpec)) copyingFoldsUptoCard

/-- THE SECOND FORM's CARD OF 'rovinglaw12.InlineOrder'. -/
def inlineOrderUptoCard : Claim7 := { stood := { row := inlineOrderUptoRow, standIns := [], harness := (true, "7f706719c69dc4b0603c4679a11ef5274736b24970f50c6dea0c198c1ac6f3b3"), looks := true }, kinds := [], alts := [], laidByText := true, laidKinds := [.handle], laidTests := true, laidLooks := .later }
def InlineOrderUptoCardSaid : Prop := Claim7.holds Tryd.pinned (.plain (OpenSpec.upto inlineOrderSpec)) inlineOrderUptoCard
end Rows
end Go.Proofs.YtafipkbffboebaaDoor
