/-
  DERIVED. GIVEN WITH THE SEED: THE CARDS: each row of YticbdcpdooahjaaDoorRows.lean that lists a variable, with what it lists TIED to the program's text (the seventh form; the later family's looks); each row that meets fmt, with fmt's text TOLD by the authors' own Lean function (tested against real Go, not proved from fmt's source: count such statements apart). THE CARD IS WHAT COUNTS. Prove the row's statement (the work); the ties are given (YticbdcpdooahjaaDoorTie.lean); close each card by the builder's one call (the guide's Derived/Test/ToyasCard.lean, 'card_holds'). Laid BY PROGRAM, IN A SANDBOX (cutbox-door.mjs). By AI agents, Wed Nov 11 2026. No macro, syntax, notation, axiom, sorry.
-/
import Derived.Test.YticbdcpdooahjaaDoorRows
import GoSem.ClaimSeven
namespace Go.Proofs.YticbdcpdooahjaaDoor
namespace Rows

/-- THE TIED CARD OF 'rovinglaw03.DiskSure'. -/
def diskSureCard : Claim7 := { stood := { row := diskSureRow, standIns := [], harness := (true, "5a71f644e4a9f270d065171fff7ee7f9760c44a7f7a30eea6cda3995cfd61ca5"), looks := true }, kinds := [], alts := [], laidByText := true, laidKinds := [.handle], laidTests := true, laidLooks := .later }
def DiskSureCardSaid : Prop := Claim7.holds Tryd.pinned (.plain (OpenSpec.ofChange diskSureSpec)) diskSureCard

/-- THE TIED CARD OF 'rovinglaw10.SeqsOnce'. -/
def seqsOnceCard : Claim7 := { stood := { row := seqsOnceRow, standIns := [], harness := (true, "5a71f644e4a9f270d065171fff7ee7f9760c44a7f7a30eea6cda3995cfd61ca5"), looks := true }, kinds := [], alts := [], laidByText := true, laidKinds := [.handle], laidTests := true, laidLooks := .later }
def SeqsOnceCardSaid : Prop := Claim7.holds Tryd.pinned (.plain (OpenSpec.ofChange seqsOnceSpec)) seqsOnceCard

/-- THE TIED CARD OF 'rovinglaw23.TableMakes'. -/
def tableMakesCard : Claim7 := { stood := { row := tableMakesRow, standIns := [], harness := (true, "5a71f644e4a9f270d065171fff7ee7f9760c44a7f7a30eea6cda3995cfd61ca5"), looks := true }, kinds := [], alts := [], laidByText := true, laidKinds := [.handle], laidTests := true, laidLooks := .later }
def TableMakesCardSaid : Prop := Claim7.holds Tryd.pinned (.plain (OpenSpec.ofChange tableMakesSpec)) tableMakesCard

/-- THE TIED CARD OF 'rovinglaw23.TableRises'. -/
def tableRisesCard : Claim7 := { stood := { row := tableRisesRow, standIns := [], harness := (true, "5a71f644e4a9f270d065171fff7ee7f9760c44a7f7a30eea6cda3995cfd61ca5"), looks := true }, kinds := [], alts := [], laidByText := true, laidKinds := [.handle], laidTests := true, laidLooks := .later }
def TableRisesCardSaid : Prop := Claim7.holds Tryd.pinned (.plain (OpenSpec.ofChange tableRisesSpec)) tableRisesCard

/-- THE TIED CARD OF 'rovinglaw23.TableSelf'. -/
def tableSelfCard : Claim7 := { stood := { row := tableSelfRow, standIns := [], harness := (true, "5a71f644e4a9f270d065171fff7ee7f9760c44a7f7a30eea6cda3995cfd61ca5"), looks := true }, kinds := [], alts := [], laidByText := true, laidKinds := [.handle], laidTests := true, laidLooks := .later }
def TableSelfCardSaid : Prop := Claim7.holds Tryd.pinned (.plain (OpenSpec.ofChange tableSelfSpec)) tableSelfCard

/-- THE TIED CARD OF 'rovinglaw23.TableBacks'. -/
def tableBacksCard : Claim7 := { stood := { row := tableBacksRow, standIns := [], harness := (true, "5a71f644e4a9f270d065171fff7ee7f9760c44a7f7a30eea6cda3995cfd61ca5"), looks := true }, kinds := [], alts := [], laidByText := true, laidKinds := [.handle], laidTests := true, laidLooks := .later }
def TableBacksCardSaid : Prop := Claim7.holds Tryd.pinned (.plain (OpenSpec.ofChange tableBacksSpec)) tableBacksCard

/-- THE TIED CARD OF 'rovinglaw23.TableTells'. -/
def tableTellsCard : Claim7 := { stood := { row := tableTellsRow, standIns := [], harness := (true, "5a71f644e4a9f270d065171fff7ee7f9760c44a7f7a30eea6cda3995cfd61ca5"), looks := true }, kinds := [], alts := [], laidByText := true, laidKinds := [.handle], laidTests := true, laidLooks := .later }
def TableTellsCardSaid : Prop := Claim7.holds Tryd.pinned (.plain (OpenSpec.ofChange tableTellsSpec)) tableTellsCard

/-- THE TIED CARD OF 'rovinglaw23.TableJoins'. -/
def tableJoinsCard : Claim7 := { stood := { row := tableJoinsRow, standIns := [], harness := (true, "5a71f644e4a9f270d065171fff7ee7f9760c44a7f7a30eea6cda3995cfd61ca5"), looks := true }, kinds := [], alts := [], laidByText := true, laidKinds := [.handle], laidTests := true, laidLooks := .later }
def TableJoinsCardSaid : Prop := Claim7.holds Tryd.pinned (.plain (OpenSpec.ofChange tableJoinsSpec)) tableJoinsCard

/-- THE TIED CARD OF 'rovinglaw16.RoomMore'. -/
def roomMoreCard : Claim7 := { stood := { row := roomMoreRow, standIns := [], harness := (true, "5a71f644e4a9f270d065171fff7ee7f9760c44a7f7a30eea6cda3995cfd61ca5"), looks := true }, kinds := [], alts := [], laidByText := true, laidKinds := [.handle], laidTests := true, laidLooks := .later }
def RoomMoreCardSaid : Prop := Claim7.holds Tryd.pinned (.plain (OpenSpec.ofChange roomMoreSpec)) roomMoreCard

/-- THE TIED CARD OF 'rovinglaw23.TableBytes'. -/
def tableBytesCard : Claim7 := { stood := { row := tableBytesRow, standIns := [], harness := (true, "5a71f644e4a9f270d065171fff7ee7f9760c44a7f7a30eea6cda3995cfd61ca5"), looks := true }, kinds := [], alts := [], laidByText := true, laidKinds := [.handle], laidTests := true, laidLooks := .later }
def TableBytesCardSaid : Prop := Claim7.holds Tryd.pinned (.plain (OpenSpec.ofChange tableBytesSpec)) tableBytesCard

/-- THE TIED CARD OF 'rovinglaw16.RoomDone'. -/
def roomDoneCard : Claim7 := { stood := { row := roomDoneRow, standIns := [], harness := (true, "5a71f644e4a9f270d065171fff7ee7f9760c44a7f7a30eea6cda3995cfd61ca5"), looks := true }, kinds := [], alts := [], laidByText := true, laidKinds := [.handle], laidTests := true, laidLooks := .later }
def RoomDoneCardSaid : Prop := Claim7.holds Tryd.pinned (.plain (OpenSpec.ofChange roomDoneSpec)) roomDoneCard

/-- THE TIED CARD OF 'rovinglaw23.TableKeeps'. -/
def tableKeepsCard : Claim7 := { stood := { row := tableKeepsRow, standIns := [], harness := (true, "5a71f644e4a9f270d065171fff7ee7f9760c44a7f7a30eea6cda3995cfd61ca5"), looks := true }, kinds := [], alts := [], laidByText := true, laidKinds := [.handle], laidTests := true, laidLooks := .later }
def TableKeepsCardSaid : Prop := Claim7.holds Tryd.pinned (.plain (OpenSpec.ofChange tableKeepsSpec)) tableKeepsCard

/-- THE SECOND FORM's CARD OF 'rovinglaw03.DiskSure'. -/
def diskSureUptoCard : Claim7 := { stood := { row := diskSureUptoRow, standIns := [], harness := (true, "5a71f644e4a9f270d065171fff7ee7f9760c44a7f7a30eea6cda3995cfd61ca5"), looks := true }, kinds := [], alts := [], laidByText := true, laidKinds := [.handle], laidTests := true, laidLooks := .later }
def DiskSureUptoCardSaid : Prop := Claim7.holds Tryd.pinned (.plain (OpenSpec.upto diskSureSpec)) diskSureUptoCard

/-- THE SECOND FORM's CARD OF 'rovinglaw10.SeqsOnce'. -/
def seqsOnceUptoCard : Claim7 := { stood := { row := seqsOnceUptoRow, standIns := [], harness := (true, "5a71f644e4a9f270d065171fff7ee7f9760c44a7f7a30eea6cda3995cfd61ca5"), looks := true }, kinds := [], alts := [], laidByText := true, laidKinds := [.handle], laidTests := true, laidLooks := .later }
def SeqsOnceUptoCardSaid : Prop := Claim7.holds Tryd.pinned (.plain (OpenSpec.upto seqsOnceSpec)) seqsOnceUptoCard

/-- THE SECOND FORM's CARD OF 'rovinglaw23.TableMakes'. -/
def tableMakesUptoCard : Claim7 := { stood := { row := tableMakesUptoRow, standIns := [], harness := (true, "5a71f644e4a9f270d065171fff7ee7f9760c44a7f7a30eea6cda3995cfd61ca5"), looks := true }, kinds := [], alts := [], laidByText := true, laidKinds := [.handle], laidTests := true, laidLooks := .later }
def TableMakesUptoCardSaid : Prop := Claim7.holds Tryd.pinned (.plain (OpenSpec.upto tableMakesSpec)) tableMakesUptoCard

/-- THE SECOND FORM's CARD OF 'rovinglaw23.TableRises'. -/
def tableRisesUptoCard : Claim7 := { stood := { row := tableRisesUptoRow, standIns := [], harness := (true, "5a71f644e4a9f270d065171fff7ee7f9760c44a7f7a30eea6cda3995cfd61ca5"), looks := true }, kinds := [], alts := [], laidByText := true, laidKinds := [.handle], laidTests := true, laidLooks := .later }
def TableRisesUptoCardSaid : Prop := Claim7.holds Tryd.pinned (.plain (OpenSpec.upto tableRisesSpec)) tableRisesUptoCard

/-- THE SECOND FORM's CARD OF 'rovinglaw23.TableSelf'. -/
def tableSelfUptoCard : Claim7 := { stood := { row := tableSelfUptoRow, standIns := [], harness := (true, "5a71f644e4a9f270d065171fff7ee7f9760c44a7f7a30eea6cda3995cfd61ca5"), looks := true }, kinds := [], alts := [], laidByText := true, laidKinds := [.handle], laidTests := true, laidLooks := .later }
def TableSelfUptoCardSaid : Prop := Claim7.holds Tryd.pinned (.plain (OpenSpec.upto tableSelfSpec)) tableSelfUptoCard

/-- THE SECOND FORM's CARD OF 'rovinglaw23.TableBacks'. -/
def tableBacksUptoCard : Claim7 := { stood := { row := tableBacksUptoRow, standIns := [], harness := (true, "5a71f644e4a9f270d065171fff7ee7f9760c44a7f7a30eea6cda3995cfd61ca5"), looks := true }, kinds := [], alts := [], laidByText := true, laidKinds := [.handle], laidTests := true, laidLooks := .later }
def TableBacksUptoCardSaid : Prop := Claim7.holds Tryd.pinned (.plain (OpenSpec.upto tableBacksSpec)) tableBacksUptoCard

/-- THE SECOND FORM's CARD OF 'rovinglaw23.TableTells'. -/
def tableTellsUptoCard : Claim7 := { stood := { row := tableTellsUptoRow, standIns := [], harness := (true, "5a71f644e4a9f270d065171fff7ee7f9760c44a7f7a30eea6cda3995cfd61ca5"), looks := true }, kinds := [], alts := [], laidByText := true, laidKinds := [.handle], laidTests := true, laidLooks := .later }
def TableTellsUptoCardSaid : Prop := Claim7.holds Tryd.pinned (.plain (OpenSpec.upto tableTellsSpec)) tableTellsUptoCard

/-- THE SECOND FORM's CARD OF 'rovinglaw23.TableJoins'. -/
def tableJoinsUptoCard : Claim7 := { stood := { row := tableJoinsUptoRow, standIns := [], harness := (true, "5a71f644e4a9f270d065171fff7ee7f9760c44a7f7a30eea6cda3995cfd61ca5"), looks := true }, kinds := [], alts := [], laidByText := true, laidKinds := [.handle], laidTests := true, laidLooks := .later }
def TableJoinsUptoCardSaid : Prop := Claim7.holds Tryd.pinned (.plain (OpenSpec.upto tableJoinsSpec)) tableJoinsUptoCard

/-- THE SECOND FORM's CARD OF 'rovinglaw16.RoomMore'. -/
def roomMoreUptoCard : Claim7 := { stood := { row := roomMoreUptoRow, standIns := [], harness := (true, "5a71f644e4a9f270d065171fff7ee7f9760c44a7f7a30eea6cda3995cfd61ca5"), looks := true }, kinds := [], alts := [], laidByText := true, laidKinds := [.handle], laidTests := true, laidLooks := .later }
def RoomMoreUptoCardSaid : Prop := Claim7.holds Tryd.pinned (.plain (OpenSpec.upto roomMoreSpec)) roomMoreUptoCard

/-- THE SECOND FORM's CARD OF 'rovinglaw23.TableBytes'. -/
def tableBytesUptoCard : Claim7 := { stood := { row := tableBytesUptoRow, standIns := [], harness := (true, "5a71f644e4a9f270d065171fff7ee7f9760c44a7f7a30eea6cda3995cfd61ca5"), looks := true }, kinds := [], alts := [], laidByText := true, laidKinds := [.handle], laidTests := true, laidLooks := .later }
def TableBytesUptoCardSaid : Prop := Claim7.holds Tryd.pinned (.plain (OpenSpec.upto tableBytesSpec)) tableBytesUptoCard

/-- THE SECOND FORM's CARD OF 'rovinglaw16.RoomDone'. -/
def roomDoneUptoCard : Claim7 := { stood := { row := roomDoneUptoRow, standIns := [], harness := (true, "5a71f644e4a9f270d065171fff7ee7f9760c44a7f7a30eea6cda3995cfd61ca5"), looks := true }, kinds := [], alts := [], laidByText := true, laidKinds := [.handle], laidTests := true, laidLooks := .later }
def RoomDoneUptoCardSaid : Prop := Claim7.holds Tryd.pinned (.plain (OpenSpec.upto roomDoneSpec)) roomDoneUptoCard

/-- THE SECOND FORM's CARD OF 'rovinglaw23.TableKeeps'. -/
def tableKeepsUptoCard : Claim7 := { stood := { row := tableKeepsUptoRow, standIns := [], harness := (true, "5a71f644e4a9f270d065171fff7ee7f9760c44a7f7a30eea6cda3995cfd61ca5"), looks := true }, kinds := [], alts := [], laidByText := true, laidKinds := [.handle], laidTests := true, laidLooks := .later }
def TableKeepsUptoCardSaid : Prop := Claim7.holds Tryd.pinned (.plain (OpenSpec.upto tableKeepsSpec)) tableKeepsUptoCard
end Rows
end Go.Proofs.YticbdcpdooahjaaDoor
