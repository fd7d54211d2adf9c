/-
  NARROWER THAN 'FOR EVERY INPUT', by the rows' own cells (each row's printed sentence says how): ImageLags: laid · ImageBare: laid · ImageMoved: laid · BufferWaits: laid · BufferGaps: laid · BufferFolds: laid · BufferBack: laid · ImageQuiet: laid.
  DERIVED. THE GIVEN ROWS OF THIS SEAT. 8 by the template 'for every input the law returns true; each argument reads behind the call as it read before'; 0 by the template 'total and deterministic' (their statements: YtpklhnpchhaccaaGreatDoorTotals.lean).
  GIVEN WITH THE SEED: the statements are not yours to turn. If you find one false, say at which input.
  Laid BY PROGRAM, IN A SANDBOX (cutbox-rows.mjs): the forced cells as the released guide's own fill.sh prints them over the translation 6a49d25d6f649c2a… (all of the seat's roots in one cut). By AI agents, Wed Nov 11 2026. No macro, syntax, notation, axiom, sorry.
-/
import Derived.Test.YtpklhnpchhaccaaGreatDoorChecked
import GoSem.Claim
import GoSem.ClaimJoined
import GoSem.ClaimMapViews
import Derived.JoinedTies
import Derived.KernelRfl
namespace Go.Proofs.YtpklhnpchhaccaaGreatDoor
/- THE CELL 'sum', in the pinned program and in every row, IS THE sha256 OF THE DUMP (.gsa) THAT YtpklhnpchhaccaaGreatDoorProg.lean LOADS. Nothing in Lean hashes anything: it is a label: what it is worth is what the hold of that sum in a sandbox is worth. -/
noncomputable def Tryz.pinned : Pinned := { name := "ytpklhnpchhaccaagreatdoor", sum := "6a49d25d6f649c2ab910a8c4767fd330f816242942d7ebbea369ad23209740aa", checked := Tryz.checked }
namespace Rows
def none {H : Type} : Left H := { results := [], args := [] }

/- WHAT THE LISTED PACKAGE-LEVEL VARIABLES READ AS WHEN THE CALL BEGINS. Each datum BY PROGRAM (the guide's laid-datum.mjs) off the statement by which the dump's own 'gosem.cut.vars' lays the variable. In a bare row this is a premise. The card (YtpklhnpchhaccaaGreatDoorCards.lean) ties it to the program's text. -/
def laid_errors_errorType {H : Type} : DataW H := .iface "internal/reflectlite.rtype" (.agg [.ptr (.lit (.string [101, 114, 114, 111, 114]))])
def laid_math_bits_deBruijn32tab {H : Type} : DataW H := .agg [.lit (.int .u8 0), .lit (.int .u8 1), .lit (.int .u8 28), .lit (.int .u8 2), .lit (.int .u8 29), .lit (.int .u8 14), .lit (.int .u8 24), .lit (.int .u8 3), .lit (.int .u8 30), .lit (.int .u8 22), .lit (.int .u8 20), .lit (.int .u8 15), .lit (.int .u8 25), .lit (.int .u8 17), .lit (.int .u8 4), .lit (.int .u8 8), .lit (.int .u8 31), .lit (.int .u8 27), .lit (.int .u8 13), .lit (.int .u8 23), .lit (.int .u8 21), .lit (.int .u8 19), .lit (.int .u8 16), .lit (.int .u8 7), .lit (.int .u8 26), .lit (.int .u8 12), .lit (.int .u8 18), .lit (.int .u8 6), .lit (.int .u8 11), .lit (.int .u8 5), .lit (.int .u8 10), .lit (.int .u8 9)]
def laid_math_bits_deBruijn64tab {H : Type} : DataW H := .agg [.lit (.int .u8 0), .lit (.int .u8 1), .lit (.int .u8 56), .lit (.int .u8 2), .lit (.int .u8 57), .lit (.int .u8 49), .lit (.int .u8 28), .lit (.int .u8 3), .lit (.int .u8 61), .lit (.int .u8 58), .lit (.int .u8 42), .lit (.int .u8 50), .lit (.int .u8 38), .lit (.int .u8 29), .lit (.int .u8 17), .lit (.int .u8 4), .lit (.int .u8 62), .lit (.int .u8 47), .lit (.int .u8 59), .lit (.int .u8 36), .lit (.int .u8 45), .lit (.int .u8 43), .lit (.int .u8 51), .lit (.int .u8 22), .lit (.int .u8 53), .lit (.int .u8 39), .lit (.int .u8 33), .lit (.int .u8 30), .lit (.int .u8 24), .lit (.int .u8 18), .lit (.int .u8 12), .lit (.int .u8 5), .lit (.int .u8 63), .lit (.int .u8 55), .lit (.int .u8 48), .lit (.int .u8 27), .lit (.int .u8 60), .lit (.int .u8 41), .lit (.int .u8 37), .lit (.int .u8 16), .lit (.int .u8 46), .lit (.int .u8 35), .lit (.int .u8 44), .lit (.int .u8 21), .lit (.int .u8 52), .lit (.int .u8 32), .lit (.int .u8 23), .lit (.int .u8 11), .lit (.int .u8 54), .lit (.int .u8 26), .lit (.int .u8 40), .lit (.int .u8 15), .lit (.int .u8 34), .lit (.int .u8 20), .lit (.int .u8 31), .lit (.int .u8 10), .lit (.int .u8 25), .lit (.int .u8 14), .lit (.int .u8 19), .lit (.int .u8 9), .lit (.int .u8 13), .lit (.int .u8 8), .lit (.int .u8 7), .lit (.int .u8 6)]
def laid_internal_strconv_uint64pow10 {H : Type} : DataW H := .agg [.lit (.int .u64 1), .lit (.int .u64 10), .lit (.int .u64 100), .lit (.int .u64 1000), .lit (.int .u64 10000), .lit (.int .u64 100000), .lit (.int .u64 1000000), .lit (.int .u64 10000000), .lit (.int .u64 100000000), .lit (.int .u64 1000000000), .lit (.int .u64 10000000000), .lit (.int .u64 100000000000), .lit (.int .u64 1000000000000), .lit (.int .u64 10000000000000), .lit (.int .u64 100000000000000), .lit (.int .u64 1000000000000000), .lit (.int .u64 10000000000000000), .lit (.int .u64 100000000000000000), .lit (.int .u64 1000000000000000000), .lit (.int .u64 10000000000000000000)]

/-- 'rovinglaw27.ImageLags': WHATEVER THE INPUT: true; the input reads as it did. -/
def imageLagsSpec : ChangeSpec := { name := "imageLags", fn := fun _ => fun
  | [d1, d2, d3, d4] => { results := [.lit (.bool true)], args := [d1, d2, d3, d4] }
  | _ => none }
def imageLagsRow : OpenClaim := { program := "ytpklhnpchhaccaagreatdoor", sum := "6a49d25d6f649c2ab910a8c4767fd330f816242942d7ebbea369ad23209740aa", func := "roving/rovinglaw27.ImageLags", spec := "imageLags", inPlace := ["internal/reflectlite.TypeOf", "internal/reflectlite.ValueOf", "(internal/reflectlite.Value).Type", "(internal/reflectlite.Value).IsNil", "(internal/reflectlite.Value).Elem", "(internal/reflectlite.Value).Set"], unfollowed := true, recurses := true, named := ["errors.errorType"], apart := false, laid := [("errors.errorType", laid_errors_errorType)] }
def ImageLagsSaid : Prop := imageLagsRow.holds Tryz.pinned (OpenSpec.ofChange imageLagsSpec)

/-- ITS FALSE NEIGHBOUR: 'it returns false'. Refute it at one input. -/
def imageLagsWrong : ChangeSpec := { name := "imageLags", fn := fun _ => fun
  | [d1, d2, d3, d4] => { results := [.lit (.bool false)], args := [d1, d2, d3, d4] }
  | _ => none }
def ImageLagsWrongFalsely : Prop := imageLagsRow.holds Tryz.pinned (OpenSpec.ofChange imageLagsWrong)

/-- 'rovinglaw27.ImageBare': WHATEVER THE INPUT: true; the input reads as it did. -/
def imageBareSpec : ChangeSpec := { name := "imageBare", fn := fun _ => fun
  | [d] => { results := [.lit (.bool true)], args := [d] }
  | _ => none }
def imageBareRow : OpenClaim := { program := "ytpklhnpchhaccaagreatdoor", sum := "6a49d25d6f649c2ab910a8c4767fd330f816242942d7ebbea369ad23209740aa", func := "roving/rovinglaw27.ImageBare", spec := "imageBare", inPlace := ["internal/reflectlite.TypeOf", "internal/reflectlite.ValueOf", "(internal/reflectlite.Value).Type", "(internal/reflectlite.Value).IsNil", "(internal/reflectlite.Value).Elem", "(internal/reflectlite.Value).Set"], unfollowed := true, recurses := true, named := ["errors.errorType"], apart := false, laid := [("errors.errorType", laid_errors_errorType)] }
def ImageBareSaid : Prop := imageBareRow.holds Tryz.pinned (OpenSpec.ofChange imageBareSpec)

/-- ITS FALSE NEIGHBOUR: 'it returns false'. Refute it at one input. -/
def imageBareWrong : ChangeSpec := { name := "imageBare", fn := fun _ => fun
  | [d] => { results := [.lit (.bool false)], args := [d] }
  | _ => none }
def ImageBareWrongFalsely : Prop := imageBareRow.holds Tryz.pinned (OpenSpec.ofChange imageBareWrong)

/-- 'rovinglaw27.ImageMoved': WHATEVER THE INPUT: true; the input reads as it did. -/
def imageMovedSpec : ChangeSpec := { name := "imageMoved", fn := fun _ => fun
  | [d1, d2] => { results := [.lit (.bool true)], args := [d1, d2] }
  | _ => none }
def imageMovedRow : OpenClaim := { program := "ytpklhnpchhaccaagreatdoor", sum := "6a49d25d6f649c2ab910a8c4767fd330f816242942d7ebbea369ad23209740aa", func := "roving/rovinglaw27.ImageMoved", spec := "imageMoved", inPlace := ["internal/reflectlite.TypeOf", "internal/reflectlite.ValueOf", "(internal/reflectlite.Value).Type", "(internal/reflectlite.Value).IsNil", "(internal/reflectlite.Value).Elem", "(internal/reflectlite.Value).Set"], unfollowed := true, recurses := true, named := ["errors.errorType"], apart := false, laid := [("errors.errorType", laid_errors_errorType)] }
def ImageMovedSaid : Prop := imageMovedRow.holds Tryz.pinned (OpenSpec.ofChange imageMovedSpec)

/-- ITS FALSE NEIGHBOUR: 'it returns false'. Refute it at one input. -/
def imageMovedWrong : ChangeSpec := { name := "imageMoved", fn := fun _ => fun
  | [d1, d2] => { results := [.lit (.bool false)], args := [d1, d2] }
  | _ => none }
def ImageMovedWrongFalsely : Prop := imageMovedRow.holds Tryz.pinned (OpenSpec.ofChange imageMovedWrong)

/-- 'rovinglaw14.BufferWaits': WHATEVER THE INPUT: true; the input reads as it did. -/
def bufferWaitsSpec : ChangeSpec := { name := "bufferWaits", fn := fun _ => fun
  | [d1, d2] => { results := [.lit (.bool true)], args := [d1, d2] }
  | _ => none }
def bufferWaitsRow : OpenClaim := { program := "ytpklhnpchhaccaagreatdoor", sum := "6a49d25d6f649c2ab910a8c4767fd330f816242942d7ebbea369ad23209740aa", func := "roving/rovinglaw14.BufferWaits", spec := "bufferWaits", inPlace := ["internal/reflectlite.ValueOf", "(internal/reflectlite.Value).Type", "(internal/reflectlite.Value).IsNil", "internal/reflectlite.TypeOf", "(internal/reflectlite.Value).Elem", "(internal/reflectlite.Value).Set", "slices.overlaps[roving/api.Open]"], unfollowed := true, recurses := true, named := ["errors.errorType", "internal/strconv.uint64pow10", "math/bits.deBruijn32tab", "math/bits.deBruijn64tab"], apart := false, laid := [("math/bits.deBruijn32tab", laid_math_bits_deBruijn32tab), ("math/bits.deBruijn64tab", laid_math_bits_deBruijn64tab), ("internal/strconv.uint64pow10", laid_internal_strconv_uint64pow10), ("errors.errorType", laid_errors_errorType)] }
def BufferWaitsSaid : Prop := bufferWaitsRow.holds Tryz.pinned (OpenSpec.ofChange bufferWaitsSpec)

/-- ITS FALSE NEIGHBOUR: 'it returns false'. Refute it at one input. -/
def bufferWaitsWrong : ChangeSpec := { name := "bufferWaits", fn := fun _ => fun
  | [d1, d2] => { results := [.lit (.bool false)], args := [d1, d2] }
  | _ => none }
def BufferWaitsWrongFalsely : Prop := bufferWaitsRow.holds Tryz.pinned (OpenSpec.ofChange bufferWaitsWrong)

/-- 'rovinglaw14.BufferGaps': WHATEVER THE INPUT: true; the input reads as it did. -/
def bufferGapsSpec : ChangeSpec := { name := "bufferGaps", fn := fun _ => fun
  | [d1, d2] => { results := [.lit (.bool true)], args := [d1, d2] }
  | _ => none }
def bufferGapsRow : OpenClaim := { program := "ytpklhnpchhaccaagreatdoor", sum := "6a49d25d6f649c2ab910a8c4767fd330f816242942d7ebbea369ad23209740aa", func := "roving/rovinglaw14.BufferGaps", spec := "bufferGaps", inPlace := ["internal/reflectlite.ValueOf", "(internal/reflectlite.Value).Type", "(internal/reflectlite.Value).IsNil", "internal/reflectlite.TypeOf", "(internal/reflectlite.Value).Elem", "(internal/reflectlite.Value).Set", "slices.overlaps[roving/api.Open]"], unfollowed := true, recurses := true, named := ["errors.errorType", "internal/strconv.uint64pow10", "math/bits.deBruijn32tab", "math/bits.deBruijn64tab"], apart := false, laid := [("math/bits.deBruijn32tab", laid_math_bits_deBruijn32tab), ("math/bits.deBruijn64tab", laid_math_bits_deBruijn64tab), ("internal/strconv.uint64pow10", laid_internal_strconv_uint64pow10), ("errors.errorType", laid_errors_errorType)] }
def BufferGapsSaid : Prop := bufferGapsRow.holds Tryz.pinned (OpenSpec.ofChange bufferGapsSpec)

/-- ITS FALSE NEIGHBOUR: 'it returns false'. Refute it at one input. -/
def bufferGapsWrong : ChangeSpec := { name := "bufferGaps", fn := fun _ => fun
  | [d1, d2] => { results := [.lit (.bool false)], args := [d1, d2] }
  | _ => none }
def BufferGapsWrongFalsely : Prop := bufferGapsRow.holds Tryz.pinned (OpenSpec.ofChange bufferGapsWrong)

/-- 'rovinglaw14.BufferFolds': WHATEVER THE INPUT: true; the input reads as it did. -/
def bufferFoldsSpec : ChangeSpec := { name := "bufferFolds", fn := fun _ => fun
  | [d1, d2, d3] => { results := [.lit (.bool true)], args := [d1, d2, d3] }
  | _ => none }
def bufferFoldsRow : OpenClaim := { program := "ytpklhnpchhaccaagreatdoor", sum := "6a49d25d6f649c2ab910a8c4767fd330f816242942d7ebbea369ad23209740aa", func := "roving/rovinglaw14.BufferFolds", spec := "bufferFolds", inPlace := ["internal/reflectlite.ValueOf", "(internal/reflectlite.Value).Type", "(internal/reflectlite.Value).IsNil", "internal/reflectlite.TypeOf", "(internal/reflectlite.Value).Elem", "(internal/reflectlite.Value).Set", "slices.overlaps[roving/api.Open]"], unfollowed := true, recurses := true, named := ["errors.errorType", "internal/strconv.uint64pow10", "math/bits.deBruijn32tab", "math/bits.deBruijn64tab"], apart := false, laid := [("math/bits.deBruijn32tab", laid_math_bits_deBruijn32tab), ("math/bits.deBruijn64tab", laid_math_bits_deBruijn64tab), ("internal/strconv.uint64pow10", laid_internal_strconv_uint64pow10), ("errors.errorType", laid_errors_errorType)] }
def BufferFoldsSaid : Prop := bufferFoldsRow.holds Tryz.pinned (OpenSpec.ofChange bufferFoldsSpec)

/-- ITS FALSE NEIGHBOUR: 'it returns false'. Refute it at one input. -/
def bufferFoldsWrong : ChangeSpec := { name := "bufferFolds", fn := fun _ => fun
  | [d1, d2, d3] => { results := [.lit (.bool false)], args := [d1, d2, d3] }
  | _ => none }
def BufferFoldsWrongFalsely : Prop := bufferFoldsRow.holds Tryz.pinned (OpenSpec.ofChange bufferFoldsWrong)

/-- 'rovinglaw14.BufferBack': WHATEVER THE INPUT: true; the input reads as it did. -/
def bufferBackSpec : ChangeSpec := { name := "bufferBack", fn := fun _ => fun
  | [d1, d2] => { results := [.lit (.bool true)], args := [d1, d2] }
  | _ => none }
def bufferBackRow : OpenClaim := { program := "ytpklhnpchhaccaagreatdoor", sum := "6a49d25d6f649c2ab910a8c4767fd330f816242942d7ebbea369ad23209740aa", func := "roving/rovinglaw14.BufferBack", spec := "bufferBack", inPlace := ["internal/reflectlite.ValueOf", "(internal/reflectlite.Value).Type", "(internal/reflectlite.Value).IsNil", "internal/reflectlite.TypeOf", "(internal/reflectlite.Value).Elem", "(internal/reflectlite.Value).Set", "slices.overlaps[roving/api.Open]"], unfollowed := true, recurses := true, named := ["errors.errorType", "internal/strconv.uint64pow10", "math/bits.deBruijn32tab", "math/bits.deBruijn64tab"], apart := false, laid := [("math/bits.deBruijn32tab", laid_math_bits_deBruijn32tab), ("math/bits.deBruijn64tab", laid_math_bits_deBruijn64tab), ("internal/strconv.uint64pow10", laid_internal_strconv_uint64pow10), ("errors.errorType", laid_errors_errorType)] }
def BufferBackSaid : Prop := bufferBackRow.holds Tryz.pinned (OpenSpec.ofChange bufferBackSpec)

/-- ITS FALSE NEIGHBOUR: 'it returns false'. Refute it at one input. -/
def bufferBackWrong : ChangeSpec := { name := "bufferBack", fn := fun _ => fun
  | [d1, d2] => { results := [.lit (.bool false)], args := [d1, d2] }
  | _ => none }
def BufferBackWrongFalsely : Prop := bufferBackRow.holds Tryz.pinned (OpenSpec.ofChange bufferBackWrong)

/-- 'rovinglaw27.ImageQuiet': WHATEVER THE INPUT: true; the input reads as it did. -/
def imageQuietSpec : ChangeSpec := { name := "imageQuiet", fn := fun _ => fun
  | [d] => { results := [.lit (.bool true)], args := [d] }
  | _ => none }
def imageQuietRow : OpenClaim := { program := "ytpklhnpchhaccaagreatdoor", sum := "6a49d25d6f649c2ab910a8c4767fd330f816242942d7ebbea369ad23209740aa", func := "roving/rovinglaw27.ImageQuiet", spec := "imageQuiet", inPlace := ["internal/reflectlite.TypeOf", "internal/reflectlite.ValueOf", "(internal/reflectlite.Value).Type", "(internal/reflectlite.Value).IsNil", "(internal/reflectlite.Value).Elem", "(internal/reflectlite.Value).Set"], unfollowed := true, recurses := true, named := ["errors.errorType"], apart := false, laid := [("errors.errorType", laid_errors_errorType)] }
def ImageQuietSaid : Prop := imageQuietRow.holds Tryz.pinned (OpenSpec.ofChange imageQuietSpec)

/-- ITS FALSE NEIGHBOUR: 'it returns false'. Refute it at one input. -/
def imageQuietWrong : ChangeSpec := { name := "imageQuiet", fn := fun _ => fun
  | [d] => { results := [.lit (.bool false)], args := [d] }
  | _ => none }
def ImageQuietWrongFalsely : Prop := imageQuietRow.holds Tryz.pinned (OpenSpec.ofChange imageQuietWrong)

/- THE SECOND FORM. 'bulk': how many values and letters a reading holds, each counted each time it is reached (what is shared counts as often as it is met; a slice's spare places count too). A statement '..UptoSaid' is the law's where the arguments, and the package variables that the reading takes, are together of bulk at most 1048576: NARROWER than '..Said'. Prove '..Said' where nothing that the law and all that it calls make is longer than what came in: it says more and counts as full. Else prove '..UptoSaid'. A law counts once. -/
mutual
def uptoBulk {H : Type} : DataW H → Nat
  | .lit (.string bytes) => bytes.length + 1
  | .lit _ => 1
  | .nil => 1
  | .ptr d => uptoBulk d + 1
  | .slice elems spare => uptoBulkAll elems + uptoBulkAll spare + 1
  | .agg parts => uptoBulkAll parts + 1
  | .iface _ d => uptoBulk d + 1
  | .map entries => uptoBulkEntries entries + 1
  | .held _ => 1
def uptoBulkAll {H : Type} : List (DataW H) → Nat
  | [] => 0
  | d :: r => uptoBulk d + uptoBulkAll r
def uptoBulkEntries {H : Type} : List (Lit × DataW H) → Nat
  | [] => 0
  | x :: r => uptoBulkEntry x + uptoBulkEntries r
def uptoBulkEntry {H : Type} : Lit × DataW H → Nat
  | (.string bytes, d) => bytes.length + uptoBulk d + 1
  | (_, d) => uptoBulk d + 1
 end
def uptoSmall : (H : Type) → List (DataW H) → Bool := fun _ ds => decide (uptoBulkAll ds ≤ 1048576)
def OpenSpec.upto (s : _root_.Go.ChangeSpec) : _root_.Go.OpenSpec := { _root_.Go.OpenSpec.ofChange s with cond := some uptoSmall }

/-- 'rovinglaw27.ImageLags', WHERE WHAT IT READS IS OF BULK AT MOST 1048576: true; the input reads as it did. -/
def imageLagsUptoRow : OpenClaim := { program := "ytpklhnpchhaccaagreatdoor", sum := "6a49d25d6f649c2ab910a8c4767fd330f816242942d7ebbea369ad23209740aa", func := "roving/rovinglaw27.ImageLags", spec := "imageLags", inPlace := ["internal/reflectlite.TypeOf", "internal/reflectlite.ValueOf", "(internal/reflectlite.Value).Type", "(internal/reflectlite.Value).IsNil", "(internal/reflectlite.Value).Elem", "(internal/reflectlite.Value).Set"], unfollowed := true, recurses := true, named := ["errors.errorType"], apart := false, laid := [("errors.errorType", laid_errors_errorType)], narrowed := true }
def ImageLagsUptoSaid : Prop := imageLagsUptoRow.holds Tryz.pinned (OpenSpec.upto imageLagsSpec)

/-- 'rovinglaw27.ImageBare', WHERE WHAT IT READS IS OF BULK AT MOST 1048576: true; the input reads as it did. -/
def imageBareUptoRow : OpenClaim := { program := "ytpklhnpchhaccaagreatdoor", sum := "6a49d25d6f649c2ab910a8c4767fd330f816242942d7ebbea369ad23209740aa", func := "roving/rovinglaw27.ImageBare", spec := "imageBare", inPlace := ["internal/reflectlite.TypeOf", "internal/reflectlite.ValueOf", "(internal/reflectlite.Value).Type", "(internal/reflectlite.Value).IsNil", "(internal/reflectlite.Value).Elem", "(internal/reflectlite.Value).Set"], unfollowed := true, recurses := true, named := ["errors.errorType"], apart := false, laid := [("errors.errorType", laid_errors_errorType)], narrowed := true }
def ImageBareUptoSaid : Prop := imageBareUptoRow.holds Tryz.pinned (OpenSpec.upto imageBareSpec)

/-- 'rovinglaw27.ImageMoved', WHERE WHAT IT READS IS OF BULK AT MOST 1048576: true; the input reads as it did. -/
def imageMovedUptoRow : OpenClaim := { program := "ytpklhnpchhaccaagreatdoor", sum := "6a49d25d6f649c2ab910a8c4767fd330f816242942d7ebbea369ad23209740aa", func := "roving/rovinglaw27.ImageMoved", spec := "imageMoved", inPlace := ["internal/reflectlite.TypeOf", "internal/reflectlite.ValueOf", "(internal/reflectlite.Value).Type", "(internal/reflectlite.Value).IsNil", "(internal/reflectlite.Value).Elem", "(internal/reflectlite.Value).Set"], unfollowed := true, recurses := true, named := ["errors.errorType"], apart := false, laid := [("errors.errorType", laid_errors_errorType)], narrowed := true }
def ImageMovedUptoSaid : Prop := imageMovedUptoRow.holds Tryz.pinned (OpenSpec.upto imageMovedSpec)

/-- 'rovinglaw14.BufferWaits', WHERE WHAT IT READS IS OF BULK AT MOST 1048576: true; the input reads as it did. -/
def bufferWaitsUptoRow : OpenClaim := { program := "ytpklhnpchhaccaagreatdoor", sum := "6a49d25d6f649c2ab910a8c4767fd330f816242942d7ebbea369ad23209740aa", func := "roving/rovinglaw14.BufferWaits", spec := "bufferWaits", inPlace := ["internal/reflectlite.ValueOf", "(internal/reflectlite.Value).Type", "(internal/reflectlite.Value).IsNil", "internal/reflectlite.TypeOf", "(internal/reflectlite.Value).Elem", "(internal/reflectlite.Value).Set", "slices.overlaps[roving/api.Open]"], unfollowed := true, recurses := true, named := ["errors.errorType", "internal/strconv.uint64pow10", "math/bits.deBruijn32tab", "math/bits.deBruijn64tab"], apart := false, laid := [("math/bits.deBruijn32tab", laid_math_bits_deBruijn32tab), ("math/bits.deBruijn64tab", laid_math_bits_deBruijn64tab), ("internal/strconv.uint64pow10", laid_internal_strconv_uint64pow10), ("errors.errorType", laid_errors_errorType)], narrowed := true }
def BufferWaitsUptoSaid : Prop := bufferWaitsUptoRow.holds Tryz.pinned (OpenSpec.upto bufferWaitsSpec)

/-- 'rovinglaw14.BufferGaps', WHERE WHAT IT READS IS OF BULK AT MOST 1048576: true; the input reads as it did. -/
def bufferGapsUptoRow : OpenClaim := { program := "ytpklhnpchhaccaagreatdoor", sum := "6a49d25d6f649c2ab910a8c4767fd330f816242942d7ebbea369ad23209740aa", func := "roving/rovinglaw14.BufferGaps", spec := "bufferGaps", inPlace := ["internal/reflectlite.ValueOf", "(internal/reflectlite.Value).Type", "(internal/reflectlite.Value).IsNil", "internal/reflectlite.TypeOf", "(internal/reflectlite.Value).Elem", "(internal/reflectlite.Value).Set", "slices.overlaps[roving/api.Open]"], unfollowed := true, recurses := true, named := ["errors.errorType", "internal/strconv.uint64pow10", "math/bits.deBruijn32tab", "math/bits.deBruijn64tab"], apart := false, laid := [("math/bits.deBruijn32tab", laid_math_bits_deBruijn32tab), ("math/bits.deBruijn64tab", laid_math_bits_deBruijn64tab), ("internal/strconv.uint64pow10", laid_internal_strconv_uint64pow10), ("errors.errorType", laid_errors_errorType)], narrowed := true }
def BufferGapsUptoSaid : Prop := bufferGapsUptoRow.holds Tryz.pinned (OpenSpec.upto bufferGapsSpec)

/-- 'rovinglaw14.BufferFolds', WHERE WHAT IT READS IS OF BULK AT MOST 1048576: true; the input reads as it did. -/
def bufferFoldsUptoRow : OpenClaim := { program := "ytpklhnpchhaccaagreatdoor", sum := "6a49d25d6f649c2ab910a8c4767fd330f816242942d7ebbea369ad23209740aa", func := "roving/rovinglaw14.BufferFolds", spec := "bufferFolds", inPlace := ["internal/reflectlite.ValueOf", "(internal/reflectlite.Value).Type", "(internal/reflectlite.Value).IsNil", "internal/reflectlite.TypeOf", "(internal/reflectlite.Value).Elem", "(internal/reflectlite.Value).Set", "slices.overlaps[roving/api.Open]"], unfollowed := true, recurses := true, named := ["errors.errorType", "internal/strconv.uint64pow10", "math/bits.deBruijn32tab", "math/bits.deBruijn64tab"], apart := false, laid := [("math/bits.deBruijn32tab", laid_math_bits_deBruijn32tab), ("math/bits.deBruijn64tab", laid_math_bits_deBruijn64tab), ("internal/strconv.uint64pow10", laid_internal_strconv_uint64pow10), ("errors.errorType", laid_errors_errorType)], narrowed := true }
def BufferFoldsUptoSaid : Prop := bufferFoldsUptoRow.holds Tryz.pinned (OpenSpec.upto bufferFoldsSpec)

/-- 'rovinglaw14.BufferBack', WHERE WHAT IT READS IS OF BULK AT MOST 1048576: true; the input reads as it did. -/
def bufferBackUptoRow : OpenClaim := { program := "ytpklhnpchhaccaagreatdoor", sum := "6a49d25d6f649c2ab910a8c4767fd330f816242942d7ebbea369ad23209740aa", func := "roving/rovinglaw14.BufferBack", spec := "bufferBack", inPlace := ["internal/reflectlite.ValueOf", "(internal/reflectlite.Value).Type", "(internal/reflectlite.Value).IsNil", "internal/reflectlite.TypeOf", "(internal/reflectlite.Value).Elem", "(internal/reflectlite.Value).Set", "slices.overlaps[roving/api.Open]"], unfollowed := true, recurses := true, named := ["errors.errorType", "internal/strconv.uint64pow10", "math/bits.deBruijn32tab", "math/bits.deBruijn64tab"], apart := false, laid := [("math/bits.deBruijn32tab", laid_math_bits_deBruijn32tab), ("math/bits.deBruijn64tab", laid_math_bits_deBruijn64tab), ("internal/strconv.uint64pow10", laid_internal_strconv_uint64pow10), ("errors.errorType", laid_errors_errorType)], narrowed := true }
def BufferBackUptoSaid : Prop := bufferBackUptoRow.holds Tryz.pinned (OpenSpec.upto bufferBackSpec)

/-- 'rovinglaw27.ImageQuiet', WHERE WHAT IT READS IS OF BULK AT MOST 1048576: true; the input reads as it did. -/
def imageQuietUptoRow : OpenClaim := { program := "ytpklhnpchhaccaagreatdoor", sum := "6a49d25d6f649c2ab910a8c4767fd330f816242942d7ebbea369ad23209740aa", func := "roving/rovinglaw27.ImageQuiet", spec := "imageQuiet", inPlace := ["internal/reflectlite.TypeOf", "internal/reflectlite.ValueOf", "(internal/reflectlite.Value).Type", "(internal/reflectlite.Value).IsNil", "(internal/reflectlite.Value).Elem", "(internal/reflectlite.Value).Set"], unfollowed := true, recurses := true, named := ["errors.errorType"], apart := false, laid := [("errors.errorType", laid_errors_errorType)], narrowed := true }
def ImageQuietUptoSaid : Prop := imageQuietUptoRow.holds Tryz.pinned (OpenSpec.upto imageQuietSpec)

end Rows
end Go.Proofs.YtpklhnpchhaccaaGreatDoor
