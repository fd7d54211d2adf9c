/-
  NARROWER THAN 'FOR EVERY INPUT', by the rows' own cells (each row's printed sentence says how): ImageLags: laid · ImageBare: laid · ImageMoved: laid · ImageQuiet: laid.
  DERIVED. THE GIVEN ROWS OF THIS SEAT. 4 by the template 'for every input the law returns true; each argument reads behind the call as it read before'; 0 by the template 'total and deterministic' (their statements: YtkmfmphpndhkjaaGreatDoorTotals.lean).
  GIVEN WITH THE SEED: the statements are not yours to turn. If you find one false, say at which input.
  Laid BY PROGRAM, IN A SANDBOX (cutbox-rows.mjs): the forced cells as the released guide's own fill.sh prints them over the translation bbd61960b55d99cb… (all of the seat's roots in one cut). By AI agents, Wed Nov 11 2026. No macro, syntax, notation, axiom, sorry.
-/
import Derived.Test.YtkmfmphpndhkjaaGreatDoorChecked
import GoSem.Claim
import GoSem.ClaimJoined
import GoSem.ClaimMapViews
import Derived.JoinedTies
import Derived.KernelRfl
namespace Go.Proofs.YtkmfmphpndhkjaaGreatDoor
/- THE CELL 'sum', in the pinned program and in every row, IS THE sha256 OF THE DUMP (.gsa) THAT YtkmfmphpndhkjaaGreatDoorProg.lean LOADS. Nothing in Lean hashes anything: it is a label: what it is worth is what the hold of that sum in a sandbox is worth. -/
noncomputable def Tryz.pinned : Pinned := { name := "ytkmfmphpndhkjaagreatdoor", sum := "bbd61960b55d99cb869842d48935d95a42acfd2655ec3b702769cb5c26853312", checked := Tryz.checked }
namespace Rows
def none {H : Type} : Left H := { results := [], args := [] }

/- WHAT THE LISTED PACKAGE-LEVEL VARIABLES READ AS WHEN THE CALL BEGINS. Each datum BY PROGRAM (the guide's laid-datum.mjs) off the statement by which the dump's own 'gosem.cut.vars' lays the variable. In a bare row this is a premise. The card (YtkmfmphpndhkjaaGreatDoorCards.lean) ties it to the program's text. -/
def laid_errors_errorType {H : Type} : DataW H := .iface "internal/reflectlite.rtype" (.agg [.ptr (.lit (.string [101, 114, 114, 111, 114]))])

/-- 'rovinglaw27.ImageLags': WHATEVER THE INPUT: true; the input reads as it did. -/
def imageLagsSpec : ChangeSpec := { name := "imageLags", fn := fun _ => fun
  | [d1, d2, d3, d4] => { results := [.lit (.bool true)], args := [d1, d2, d3, d4] }
  | _ => none }
def imageLagsRow : OpenClaim := { program := "ytkmfmphpndhkjaagreatdoor", sum := "bbd61960b55d99cb869842d48935d95a42acfd2655ec3b702769cb5c26853312", func := "roving/rovinglaw27.ImageLags", spec := "imageLags", inPlace := ["internal/reflectlite.TypeOf", "internal/reflectlite.ValueOf", "(internal/reflectlite.Value).Type", "(internal/reflectlite.Value).IsNil", "(internal/reflectlite.Value).Elem", "(internal/reflectlite.Value).Set"], unfollowed := true, recurses := true, named := ["errors.errorType"], apart := false, laid := [("errors.errorType", laid_errors_errorType)] }
def ImageLagsSaid : Prop := imageLagsRow.holds Tryz.pinned (OpenSpec.ofChange imageLagsSpec)

/-- ITS FALSE NEIGHBOUR: 'it returns false'. Refute it at one input. -/
def imageLagsWrong : ChangeSpec := { name := "imageLags", fn := fun _ => fun
  | [d1, d2, d3, d4] => { results := [.lit (.bool false)], args := [d1, d2, d3, d4] }
  | _ => none }
def ImageLagsWrongFalsely : Prop := imageLagsRow.holds Tryz.pinned (OpenSpec.ofChange imageLagsWrong)

/-- 'rovinglaw27.ImageBare': WHATEVER THE INPUT: true; the input reads as it did. -/
def imageBareSpec : ChangeSpec := { name := "imageBare", fn := fun _ => fun
  | [d] => { results := [.lit (.bool true)], args := [d] }
  | _ => none }
def imageBareRow : OpenClaim := { program := "ytkmfmphpndhkjaagreatdoor", sum := "bbd61960b55d99cb869842d48935d95a42acfd2655ec3b702769cb5c26853312", func := "roving/rovinglaw27.ImageBare", spec := "imageBare", inPlace := ["internal/reflectlite.TypeOf", "internal/reflectlite.ValueOf", "(internal/reflectlite.Value).Type", "(internal/reflectlite.Value).IsNil", "(internal/reflectlite.Value).Elem", "(internal/reflectlite.Value).Set"], unfollowed := true, recurses := true, named := ["errors.errorType"], apart := false, laid := [("errors.errorType", laid_errors_errorType)] }
def ImageBareSaid : Prop := imageBareRow.holds Tryz.pinned (OpenSpec.ofChange imageBareSpec)

/-- ITS FALSE NEIGHBOUR: 'it returns false'. Refute it at one input. -/
def imageBareWrong : ChangeSpec := { name := "imageBare", fn := fun _ => fun
  | [d] => { results := [.lit (.bool false)], args := [d] }
  | _ => none }
def ImageBareWrongFalsely : Prop := imageBareRow.holds Tryz.pinned (OpenSpec.ofChange imageBareWrong)

/-- 'rovinglaw27.ImageMoved': WHATEVER THE INPUT: true; the input reads as it did. -/
def imageMovedSpec : ChangeSpec := { name := "imageMoved", fn := fun _ => fun
  | [d1, d2] => { results := [.lit (.bool true)], args := [d1, d2] }
  | _ => none }
def imageMovedRow : OpenClaim := { program := "ytkmfmphpndhkjaagreatdoor", sum := "bbd61960b55d99cb869842d48935d95a42acfd2655ec3b702769cb5c26853312", func := "roving/rovinglaw27.ImageMoved", spec := "imageMoved", inPlace := ["internal/reflectlite.TypeOf", "internal/reflectlite.ValueOf", "(internal/reflectlite.Value).Type", "(internal/reflectlite.Value).IsNil", "(internal/reflectlite.Value).Elem", "(internal/reflectlite.Value).Set"], unfollowed := true, recurses := true, named := ["errors.errorType"], apart := false, laid := [("errors.errorType", laid_errors_errorType)] }
def ImageMovedSaid : Prop := imageMovedRow.holds Tryz.pinned (OpenSpec.ofChange imageMovedSpec)

/-- ITS FALSE NEIGHBOUR: 'it returns false'. Refute it at one input. -/
def imageMovedWrong : ChangeSpec := { name := "imageMoved", fn := fun _ => fun
  | [d1, d2] => { results := [.lit (.bool false)], args := [d1, d2] }
  | _ => none }
def ImageMovedWrongFalsely : Prop := imageMovedRow.holds Tryz.pinned (OpenSpec.ofChange imageMovedWrong)

/-- 'rovinglaw27.ImageQuiet': WHATEVER THE INPUT: true; the input reads as it did. -/
def imageQuietSpec : ChangeSpec := { name := "imageQuiet", fn := fun _ => fun
  | [d] => { results := [.lit (.bool true)], args := [d] }
  | _ => none }
def imageQuietRow : OpenClaim := { program := "ytkmfmphpndhkjaagreatdoor", sum := "bbd61960b55d99cb869842d48935d95a42acfd2655ec3b702769cb5c26853312", func := "roving/rovinglaw27.ImageQuiet", spec := "imageQuiet", inPlace := ["internal/reflectlite.TypeOf", "internal/reflectlite.ValueOf", "(internal/reflectlite.Value).Type", "(internal/reflectlite.Value).IsNil", "(internal/reflectlite.Value).Elem", "(internal/reflectlite.Value).Set"], unfollowed := true, recurses := true, named := ["errors.errorType"], apart := false, laid := [("errors.errorType", laid_errors_errorType)] }
def ImageQuietSaid : Prop := imageQuietRow.holds Tryz.pinned (OpenSpec.ofChange imageQuietSpec)

/-- ITS FALSE NEIGHBOUR: 'it returns false'. Refute it at one input. -/
def imageQuietWrong : ChangeSpec := { name := "imageQuiet", fn := fun _ => fun
  | [d] => { results := [.lit (.bool false)], args := [d] }
  | _ => none }
def ImageQuietWrongFalsely : Prop := imageQuietRow.holds Tryz.pinned (OpenSpec.ofChange imageQuietWrong)

/- THE SECOND FORM. 'bulk': how many values and letters a reading holds, each counted each time it is reached (what is shared counts as often as it is met; a slice's spare places count too). A statement '..UptoSaid' is the law's where the arguments, and the package variables that the reading takes, are together of bulk at most 1048576: NARROWER than '..Said'. Prove '..Said' where nothing that the law and all that it calls make is longer than what came in: it says more and counts as full. Else prove '..UptoSaid'. A law counts once. -/
mutual
def uptoBulk {H : Type} : DataW H → Nat
  | .lit (.string bytes) => bytes.length + 1
  | .lit _ => 1
  | .nil => 1
  | .ptr d => uptoBulk d + 1
  | .slice elems spare => uptoBulkAll elems + uptoBulkAll spare + 1
  | .agg parts => uptoBulkAll parts + 1
  | .iface _ d => uptoBulk d + 1
  | .map entries => uptoBulkEntries entries + 1
  | .held _ => 1
def uptoBulkAll {H : Type} : List (DataW H) → Nat
  | [] => 0
  | d :: r => uptoBulk d + uptoBulkAll r
def uptoBulkEntries {H : Type} : List (Lit × DataW H) → Nat
  | [] => 0
  | x :: r => uptoBulkEntry x + uptoBulkEntries r
def uptoBulkEntry {H : Type} : Lit × DataW H → Nat
  | (.string bytes, d) => bytes.length + uptoBulk d + 1
  | (_, d) => uptoBulk d + 1
 end
def uptoSmall : (H : Type) → List (DataW H) → Bool := fun _ ds => decide (uptoBulkAll ds ≤ 1048576)
def OpenSpec.upto (s : _root_.Go.ChangeSpec) : _root_.Go.OpenSpec := { _root_.Go.OpenSpec.ofChange s with cond := some uptoSmall }

/-- 'rovinglaw27.ImageLags', WHERE WHAT IT READS IS OF BULK AT MOST 1048576: true; the input reads as it did. -/
def imageLagsUptoRow : OpenClaim := { program := "ytkmfmphpndhkjaagreatdoor", sum := "bbd61960b55d99cb869842d48935d95a42acfd2655ec3b702769cb5c26853312", func := "roving/rovinglaw27.ImageLags", spec := "imageLags", inPlace := ["internal/reflectlite.TypeOf", "internal/reflectlite.ValueOf", "(internal/reflectlite.Value).Type", "(internal/reflectlite.Value).IsNil", "(internal/reflectlite.Value).Elem", "(internal/reflectlite.Value).Set"], unfollowed := true, recurses := true, named := ["errors.errorType"], apart := false, laid := [("errors.errorType", laid_errors_errorType)], narrowed := true }
def ImageLagsUptoSaid : Prop := imageLagsUptoRow.holds Tryz.pinned (OpenSpec.upto imageLagsSpec)

/-- 'rovinglaw27.ImageBare', WHERE WHAT IT READS IS OF BULK AT MOST 1048576: true; the input reads as it did. -/
def imageBareUptoRow : OpenClaim := { program := "ytkmfmphpndhkjaagreatdoor", sum := "bbd61960b55d99cb869842d48935d95a42acfd2655ec3b702769cb5c26853312", func := "roving/rovinglaw27.ImageBare", spec := "imageBare", inPlace := ["internal/reflectlite.TypeOf", "internal/reflectlite.ValueOf", "(internal/reflectlite.Value).Type", "(internal/reflectlite.Value).IsNil", "(internal/reflectlite.Value).Elem", "(internal/reflectlite.Value).Set"], unfollowed := true, recurses := true, named := ["errors.errorType"], apart := false, laid := [("errors.errorType", laid_errors_errorType)], narrowed := true }
def ImageBareUptoSaid : Prop := imageBareUptoRow.holds Tryz.pinned (OpenSpec.upto imageBareSpec)

/-- 'rovinglaw27.ImageMoved', WHERE WHAT IT READS IS OF BULK AT MOST 1048576: true; the input reads as it did. -/
def imageMovedUptoRow : OpenClaim := { program := "ytkmfmphpndhkjaagreatdoor", sum := "bbd61960b55d99cb869842d48935d95a42acfd2655ec3b702769cb5c26853312", func := "roving/rovinglaw27.ImageMoved", spec := "imageMoved", inPlace := ["internal/reflectlite.TypeOf", "internal/reflectlite.ValueOf", "(internal/reflectlite.Value).Type", "(internal/reflectlite.Value).IsNil", "(internal/reflectlite.Value).Elem", "(internal/reflectlite.Value).Set"], unfollowed := true, recurses := true, named := ["errors.errorType"], apart := false, laid := [("errors.errorType", laid_errors_errorType)], narrowed := true }
def ImageMovedUptoSaid : Prop := imageMovedUptoRow.holds Tryz.pinned (OpenSpec.upto imageMovedSpec)

/-- 'rovinglaw27.ImageQuiet', WHERE WHAT IT READS IS OF BULK AT MOST 1048576: true; the input reads as it did. -/
def imageQuietUptoRow : OpenClaim := { program := "ytkmfmphpndhkjaagreatdoor", sum := "bbd61960b55d99cb869842d48935d95a42acfd2655ec3b702769cb5c26853312", func := "roving/rovinglaw27.ImageQuiet", spec := "imageQuiet", inPlace := ["internal/reflectlite.TypeOf", "internal/reflectlite.ValueOf", "(internal/reflectlite.Value).Type", "(internal/reflectlite.Value).IsNil", "(internal/reflectlite.Value).Elem", "(internal/reflectlite.Value).Set"], unfollowed := true, recurses := true, named := ["errors.errorType"], apart := false, laid := [("errors.errorType", laid_errors_errorType)], narrowed := true }
def ImageQuietUptoSaid : Prop := imageQuietUptoRow.holds Tryz.pinned (OpenSpec.upto imageQuietSpec)

end Rows
end Go.Proofs.YtkmfmphpndhkjaaGreatDoor
