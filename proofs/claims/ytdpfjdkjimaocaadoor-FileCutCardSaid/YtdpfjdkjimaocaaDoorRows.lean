/-
  NARROWER THAN 'FOR EVERY INPUT', by the rows' own cells (each row's printed sentence says how): DiskSure: laid · RoomMore: laid · RoomDone: laid · FileLoads: laid · FileCut: laid · FileMends: laid · FileCrash: laid.
  DERIVED. THE GIVEN ROWS OF THIS SEAT. 7 by the template 'for every input the law returns true; each argument reads behind the call as it read before'; 0 by the template 'total and deterministic' (their statements: YtdpfjdkjimaocaaDoorTotals.lean).
  GIVEN WITH THE SEED: the statements are not yours to turn. If you find one false, say at which input.
  Laid BY PROGRAM, IN A SANDBOX (cutbox-rows.mjs): the forced cells as the released guide's own fill.sh prints them over the translation 581ca585729dd0f8… (all of the seat's roots in one cut). By AI agents, Wed Nov 11 2026. No macro, syntax, notation, axiom, sorry.
-/
import Derived.Test.YtdpfjdkjimaocaaDoorChecked
import GoSem.Claim
import GoSem.ClaimJoined
import GoSem.ClaimMapViews
import Derived.JoinedTies
import Derived.KernelRfl
namespace Go.Proofs.YtdpfjdkjimaocaaDoor
/- THE CELL 'sum', in the pinned program and in every row, IS THE sha256 OF THE DUMP (.gsa) THAT YtdpfjdkjimaocaaDoorProg.lean LOADS. Nothing in Lean hashes anything: it is a label: what it is worth is what the hold of that sum in a sandbox is worth. -/
noncomputable def Tryd.pinned : Pinned := { name := "ytdpfjdkjimaocaadoor", sum := "581ca585729dd0f8ffd151cc7283de8533de554ae8e1babb49a0db22ac2c22e9", checked := Tryd.checked }
namespace Rows
def none {H : Type} : Left H := { results := [], args := [] }

/- WHAT THE LISTED PACKAGE-LEVEL VARIABLES READ AS WHEN THE CALL BEGINS. Each datum BY PROGRAM (the guide's laid-datum.mjs) off the statement by which the dump's own 'gosem.cut.vars' lays the variable. In a bare row this is a premise. The card (YtdpfjdkjimaocaaDoorCards.lean) ties it to the program's text. -/
def laid_errors_errorType {H : Type} : DataW H := .iface "internal/reflectlite.rtype" (.agg [.ptr (.lit (.string [101, 114, 114, 111, 114]))])

/-- 'rovinglaw03.DiskSure': WHATEVER THE INPUT: true; the input reads as it did. -/
def diskSureSpec : ChangeSpec := { name := "diskSure", fn := fun _ => fun
  | [d1, d2] => { results := [.lit (.bool true)], args := [d1, d2] }
  | _ => none }
def diskSureRow : OpenClaim := { program := "ytdpfjdkjimaocaadoor", sum := "581ca585729dd0f8ffd151cc7283de8533de554ae8e1babb49a0db22ac2c22e9", func := "roving/rovinglaw03.DiskSure", spec := "diskSure", inPlace := ["internal/reflectlite.ValueOf", "(internal/reflectlite.Value).Type", "(internal/reflectlite.Value).IsNil", "internal/reflectlite.TypeOf", "(internal/reflectlite.Value).Elem", "(internal/reflectlite.Value).Set"], unfollowed := true, recurses := true, named := ["errors.errorType"], apart := false, laid := [("errors.errorType", laid_errors_errorType)] }
def DiskSureSaid : Prop := diskSureRow.holds Tryd.pinned (OpenSpec.ofChange diskSureSpec)

/-- ITS FALSE NEIGHBOUR: 'it returns false'. Refute it at one input. -/
def diskSureWrong : ChangeSpec := { name := "diskSure", fn := fun _ => fun
  | [d1, d2] => { results := [.lit (.bool false)], args := [d1, d2] }
  | _ => none }
def DiskSureWrongFalsely : Prop := diskSureRow.holds Tryd.pinned (OpenSpec.ofChange diskSureWrong)

/-- 'rovinglaw16.RoomMore': WHATEVER THE INPUT: true; the input reads as it did. -/
def roomMoreSpec : ChangeSpec := { name := "roomMore", fn := fun _ => fun
  | [d1, d2, d3, d4] => { results := [.lit (.bool true)], args := [d1, d2, d3, d4] }
  | _ => none }
def roomMoreRow : OpenClaim := { program := "ytdpfjdkjimaocaadoor", sum := "581ca585729dd0f8ffd151cc7283de8533de554ae8e1babb49a0db22ac2c22e9", func := "roving/rovinglaw16.RoomMore", spec := "roomMore", inPlace := ["internal/reflectlite.ValueOf", "(internal/reflectlite.Value).Type", "(internal/reflectlite.Value).IsNil", "internal/reflectlite.TypeOf", "(internal/reflectlite.Value).Elem", "(internal/reflectlite.Value).Set", "maps.clone"], unfollowed := true, recurses := true, named := ["errors.errorType"], apart := false, laid := [("errors.errorType", laid_errors_errorType)] }
def RoomMoreSaid : Prop := roomMoreRow.holds Tryd.pinned (OpenSpec.ofChange roomMoreSpec)

/-- ITS FALSE NEIGHBOUR: 'it returns false'. Refute it at one input. -/
def roomMoreWrong : ChangeSpec := { name := "roomMore", fn := fun _ => fun
  | [d1, d2, d3, d4] => { results := [.lit (.bool false)], args := [d1, d2, d3, d4] }
  | _ => none }
def RoomMoreWrongFalsely : Prop := roomMoreRow.holds Tryd.pinned (OpenSpec.ofChange roomMoreWrong)

/-- 'rovinglaw16.RoomDone': WHATEVER THE INPUT: true; the input reads as it did. -/
def roomDoneSpec : ChangeSpec := { name := "roomDone", fn := fun _ => fun
  | [d1, d2] => { results := [.lit (.bool true)], args := [d1, d2] }
  | _ => none }
def roomDoneRow : OpenClaim := { program := "ytdpfjdkjimaocaadoor", sum := "581ca585729dd0f8ffd151cc7283de8533de554ae8e1babb49a0db22ac2c22e9", func := "roving/rovinglaw16.RoomDone", spec := "roomDone", inPlace := ["internal/reflectlite.ValueOf", "(internal/reflectlite.Value).Type", "(internal/reflectlite.Value).IsNil", "internal/reflectlite.TypeOf", "(internal/reflectlite.Value).Elem", "(internal/reflectlite.Value).Set", "maps.clone"], unfollowed := true, recurses := true, named := ["errors.errorType"], apart := false, laid := [("errors.errorType", laid_errors_errorType)] }
def RoomDoneSaid : Prop := roomDoneRow.holds Tryd.pinned (OpenSpec.ofChange roomDoneSpec)

/-- ITS FALSE NEIGHBOUR: 'it returns false'. Refute it at one input. -/
def roomDoneWrong : ChangeSpec := { name := "roomDone", fn := fun _ => fun
  | [d1, d2] => { results := [.lit (.bool false)], args := [d1, d2] }
  | _ => none }
def RoomDoneWrongFalsely : Prop := roomDoneRow.holds Tryd.pinned (OpenSpec.ofChange roomDoneWrong)

/-- 'rovinglaw05.FileLoads': WHATEVER THE INPUT: true; the input reads as it did. -/
def fileLoadsSpec : ChangeSpec := { name := "fileLoads", fn := fun _ => fun
  | [d1, d2, d3] => { results := [.lit (.bool true)], args := [d1, d2, d3] }
  | _ => none }
def fileLoadsRow : OpenClaim := { program := "ytdpfjdkjimaocaadoor", sum := "581ca585729dd0f8ffd151cc7283de8533de554ae8e1babb49a0db22ac2c22e9", func := "roving/rovinglaw05.FileLoads", spec := "fileLoads", inPlace := ["internal/reflectlite.TypeOf", "internal/abi.NoEscape", "internal/reflectlite.ValueOf", "(internal/reflectlite.Value).Type", "(internal/reflectlite.Value).IsNil", "(internal/reflectlite.Value).Elem", "(internal/reflectlite.Value).Set"], unfollowed := true, recurses := true, named := ["errors.errorType"], apart := false, laid := [("errors.errorType", laid_errors_errorType)] }
def FileLoadsSaid : Prop := fileLoadsRow.holds Tryd.pinned (OpenSpec.ofChange fileLoadsSpec)

/-- ITS FALSE NEIGHBOUR: 'it returns false'. Refute it at one input. -/
def fileLoadsWrong : ChangeSpec := { name := "fileLoads", fn := fun _ => fun
  | [d1, d2, d3] => { results := [.lit (.bool false)], args := [d1, d2, d3] }
  | _ => none }
def FileLoadsWrongFalsely : Prop := fileLoadsRow.holds Tryd.pinned (OpenSpec.ofChange fileLoadsWrong)

/-- 'rovinglaw05.FileCut': WHATEVER THE INPUT: true; the input reads as it did. -/
def fileCutSpec : ChangeSpec := { name := "fileCut", fn := fun _ => fun
  | [d1, d2] => { results := [.lit (.bool true)], args := [d1, d2] }
  | _ => none }
def fileCutRow : OpenClaim := { program := "ytdpfjdkjimaocaadoor", sum := "581ca585729dd0f8ffd151cc7283de8533de554ae8e1babb49a0db22ac2c22e9", func := "roving/rovinglaw05.FileCut", spec := "fileCut", inPlace := ["internal/reflectlite.TypeOf", "internal/abi.NoEscape", "internal/reflectlite.ValueOf", "(internal/reflectlite.Value).Type", "(internal/reflectlite.Value).IsNil", "(internal/reflectlite.Value).Elem", "(internal/reflectlite.Value).Set"], unfollowed := true, recurses := true, named := ["errors.errorType"], apart := false, laid := [("errors.errorType", laid_errors_errorType)] }
def FileCutSaid : Prop := fileCutRow.holds Tryd.pinned (OpenSpec.ofChange fileCutSpec)

/-- ITS FALSE NEIGHBOUR: 'it returns false'. Refute it at one input. -/
def fileCutWrong : ChangeSpec := { name := "fileCut", fn := fun _ => fun
  | [d1, d2] => { results := [.lit (.bool false)], args := [d1, d2] }
  | _ => none }
def FileCutWrongFalsely : Prop := fileCutRow.holds Tryd.pinned (OpenSpec.ofChange fileCutWrong)

/-- 'rovinglaw05.FileMends': WHATEVER THE INPUT: true; the input reads as it did. -/
def fileMendsSpec : ChangeSpec := { name := "fileMends", fn := fun _ => fun
  | [d1, d2, d3] => { results := [.lit (.bool true)], args := [d1, d2, d3] }
  | _ => none }
def fileMendsRow : OpenClaim := { program := "ytdpfjdkjimaocaadoor", sum := "581ca585729dd0f8ffd151cc7283de8533de554ae8e1babb49a0db22ac2c22e9", func := "roving/rovinglaw05.FileMends", spec := "fileMends", inPlace := ["internal/reflectlite.ValueOf", "(internal/reflectlite.Value).Type", "(internal/reflectlite.Value).IsNil", "internal/reflectlite.TypeOf", "(internal/reflectlite.Value).Elem", "(internal/reflectlite.Value).Set", "internal/abi.NoEscape"], unfollowed := true, recurses := true, named := ["errors.errorType"], apart := false, laid := [("errors.errorType", laid_errors_errorType)] }
def FileMendsSaid : Prop := fileMendsRow.holds Tryd.pinned (OpenSpec.ofChange fileMendsSpec)

/-- ITS FALSE NEIGHBOUR: 'it returns false'. Refute it at one input. -/
def fileMendsWrong : ChangeSpec := { name := "fileMends", fn := fun _ => fun
  | [d1, d2, d3] => { results := [.lit (.bool false)], args := [d1, d2, d3] }
  | _ => none }
def FileMendsWrongFalsely : Prop := fileMendsRow.holds Tryd.pinned (OpenSpec.ofChange fileMendsWrong)

/-- 'rovinglaw05.FileCrash': WHATEVER THE INPUT: true; the input reads as it did. -/
def fileCrashSpec : ChangeSpec := { name := "fileCrash", fn := fun _ => fun
  | [d1, d2, d3, d4] => { results := [.lit (.bool true)], args := [d1, d2, d3, d4] }
  | _ => none }
def fileCrashRow : OpenClaim := { program := "ytdpfjdkjimaocaadoor", sum := "581ca585729dd0f8ffd151cc7283de8533de554ae8e1babb49a0db22ac2c22e9", func := "roving/rovinglaw05.FileCrash", spec := "fileCrash", inPlace := ["internal/reflectlite.TypeOf", "internal/abi.NoEscape", "internal/reflectlite.ValueOf", "(internal/reflectlite.Value).Type", "(internal/reflectlite.Value).IsNil", "(internal/reflectlite.Value).Elem", "(internal/reflectlite.Value).Set"], unfollowed := true, recurses := true, named := ["errors.errorType"], apart := false, laid := [("errors.errorType", laid_errors_errorType)] }
def FileCrashSaid : Prop := fileCrashRow.holds Tryd.pinned (OpenSpec.ofChange fileCrashSpec)

/-- ITS FALSE NEIGHBOUR: 'it returns false'. Refute it at one input. -/
def fileCrashWrong : ChangeSpec := { name := "fileCrash", fn := fun _ => fun
  | [d1, d2, d3, d4] => { results := [.lit (.bool false)], args := [d1, d2, d3, d4] }
  | _ => none }
def FileCrashWrongFalsely : Prop := fileCrashRow.holds Tryd.pinned (OpenSpec.ofChange fileCrashWrong)

/- THE SECOND FORM. 'bulk': how many values and letters a reading holds, each counted each time it is reached (what is shared counts as often as it is met; a slice's spare places count too). A statement '..UptoSaid' is the law's where the arguments, and the package variables that the reading takes, are together of bulk at most 1048576: NARROWER than '..Said'. Prove '..Said' where nothing that the law and all that it calls make is longer than what came in: it says more and counts as full. Else prove '..UptoSaid'. A law counts once. -/
mutual
def uptoBulk {H : Type} : DataW H → Nat
  | .lit (.string bytes) => bytes.length + 1
  | .lit _ => 1
  | .nil => 1
  | .ptr d => uptoBulk d + 1
  | .slice elems spare => uptoBulkAll elems + uptoBulkAll spare + 1
  | .agg parts => uptoBulkAll parts + 1
  | .iface _ d => uptoBulk d + 1
  | .map entries => uptoBulkEntries entries + 1
  | .held _ => 1
def uptoBulkAll {H : Type} : List (DataW H) → Nat
  | [] => 0
  | d :: r => uptoBulk d + uptoBulkAll r
def uptoBulkEntries {H : Type} : List (Lit × DataW H) → Nat
  | [] => 0
  | x :: r => uptoBulkEntry x + uptoBulkEntries r
def uptoBulkEntry {H : Type} : Lit × DataW H → Nat
  | (.string bytes, d) => bytes.length + uptoBulk d + 1
  | (_, d) => uptoBulk d + 1
 end
def uptoSmall : (H : Type) → List (DataW H) → Bool := fun _ ds => decide (uptoBulkAll ds ≤ 1048576)
def OpenSpec.upto (s : _root_.Go.ChangeSpec) : _root_.Go.OpenSpec := { _root_.Go.OpenSpec.ofChange s with cond := some uptoSmall }

/-- 'rovinglaw03.DiskSure', WHERE WHAT IT READS IS OF BULK AT MOST 1048576: true; the input reads as it did. -/
def diskSureUptoRow : OpenClaim := { program := "ytdpfjdkjimaocaadoor", sum := "581ca585729dd0f8ffd151cc7283de8533de554ae8e1babb49a0db22ac2c22e9", func := "roving/rovinglaw03.DiskSure", spec := "diskSure", inPlace := ["internal/reflectlite.ValueOf", "(internal/reflectlite.Value).Type", "(internal/reflectlite.Value).IsNil", "internal/reflectlite.TypeOf", "(internal/reflectlite.Value).Elem", "(internal/reflectlite.Value).Set"], unfollowed := true, recurses := true, named := ["errors.errorType"], apart := false, laid := [("errors.errorType", laid_errors_errorType)], narrowed := true }
def DiskSureUptoSaid : Prop := diskSureUptoRow.holds Tryd.pinned (OpenSpec.upto diskSureSpec)

/-- 'rovinglaw16.RoomMore', WHERE WHAT IT READS IS OF BULK AT MOST 1048576: true; the input reads as it did. -/
def roomMoreUptoRow : OpenClaim := { program := "ytdpfjdkjimaocaadoor", sum := "581ca585729dd0f8ffd151cc7283de8533de554ae8e1babb49a0db22ac2c22e9", func := "roving/rovinglaw16.RoomMore", spec := "roomMore", inPlace := ["internal/reflectlite.ValueOf", "(internal/reflectlite.Value).Type", "(internal/reflectlite.Value).IsNil", "internal/reflectlite.TypeOf", "(internal/reflectlite.Value).Elem", "(internal/reflectlite.Value).Set", "maps.clone"], unfollowed := true, recurses := true, named := ["errors.errorType"], apart := false, laid := [("errors.errorType", laid_errors_errorType)], narrowed := true }
def RoomMoreUptoSaid : Prop := roomMoreUptoRow.holds Tryd.pinned (OpenSpec.upto roomMoreSpec)

/-- 'rovinglaw16.RoomDone', WHERE WHAT IT READS IS OF BULK AT MOST 1048576: true; the input reads as it did. -/
def roomDoneUptoRow : OpenClaim := { program := "ytdpfjdkjimaocaadoor", sum := "581ca585729dd0f8ffd151cc7283de8533de554ae8e1babb49a0db22ac2c22e9", func := "roving/rovinglaw16.RoomDone", spec := "roomDone", inPlace := ["internal/reflectlite.ValueOf", "(internal/reflectlite.Value).Type", "(internal/reflectlite.Value).IsNil", "internal/reflectlite.TypeOf", "(internal/reflectlite.Value).Elem", "(internal/reflectlite.Value).Set", "maps.clone"], unfollowed := true, recurses := true, named := ["errors.errorType"], apart := false, laid := [("errors.errorType", laid_errors_errorType)], narrowed := true }
def RoomDoneUptoSaid : Prop := roomDoneUptoRow.holds Tryd.pinned (OpenSpec.upto roomDoneSpec)

/-- 'rovinglaw05.FileLoads', WHERE WHAT IT READS IS OF BULK AT MOST 1048576: true; the input reads as it did. -/
def fileLoadsUptoRow : OpenClaim := { program := "ytdpfjdkjimaocaadoor", sum := "581ca585729dd0f8ffd151cc7283de8533de554ae8e1babb49a0db22ac2c22e9", func := "roving/rovinglaw05.FileLoads", spec := "fileLoads", inPlace := ["internal/reflectlite.TypeOf", "internal/abi.NoEscape", "internal/reflectlite.ValueOf", "(internal/reflectlite.Value).Type", "(internal/reflectlite.Value).IsNil", "(internal/reflectlite.Value).Elem", "(internal/reflectlite.Value).Set"], unfollowed := true, recurses := true, named := ["errors.errorType"], apart := false, laid := [("errors.errorType", laid_errors_errorType)], narrowed := true }
def FileLoadsUptoSaid : Prop := fileLoadsUptoRow.holds Tryd.pinned (OpenSpec.upto fileLoadsSpec)

/-- 'rovinglaw05.FileCut', WHERE WHAT IT READS IS OF BULK AT MOST 1048576: true; the input reads as it did. -/
def fileCutUptoRow : OpenClaim := { program := "ytdpfjdkjimaocaadoor", sum := "581ca585729dd0f8ffd151cc7283de8533de554ae8e1babb49a0db22ac2c22e9", func := "roving/rovinglaw05.FileCut", spec := "fileCut", inPlace := ["internal/reflectlite.TypeOf", "internal/abi.NoEscape", "internal/reflectlite.ValueOf", "(internal/reflectlite.Value).Type", "(internal/reflectlite.Value).IsNil", "(internal/reflectlite.Value).Elem", "(internal/reflectlite.Value).Set"], unfollowed := true, recurses := true, named := ["errors.errorType"], apart := false, laid := [("errors.errorType", laid_errors_errorType)], narrowed := true }
def FileCutUptoSaid : Prop := fileCutUptoRow.holds Tryd.pinned (OpenSpec.upto fileCutSpec)

/-- 'rovinglaw05.FileMends', WHERE WHAT IT READS IS OF BULK AT MOST 1048576: true; the input reads as it did. -/
def fileMendsUptoRow : OpenClaim := { program := "ytdpfjdkjimaocaadoor", sum := "581ca585729dd0f8ffd151cc7283de8533de554ae8e1babb49a0db22ac2c22e9", func := "roving/rovinglaw05.FileMends", spec := "fileMends", inPlace := ["internal/reflectlite.ValueOf", "(internal/reflectlite.Value).Type", "(internal/reflectlite.Value).IsNil", "internal/reflectlite.TypeOf", "(internal/reflectlite.Value).Elem", "(internal/reflectlite.Value).Set", "internal/abi.NoEscape"], unfollowed := true, recurses := true, named := ["errors.errorType"], apart := false, laid := [("errors.errorType", laid_errors_errorType)], narrowed := true }
def FileMendsUptoSaid : Prop := fileMendsUptoRow.holds Tryd.pinned (OpenSpec.upto fileMendsSpec)

/-- 'rovinglaw05.FileCrash', WHERE WHAT IT READS IS OF BULK AT MOST 1048576: true; the input reads as it did. -/
def fileCrashUptoRow : OpenClaim := { program := "ytdpfjdkjimaocaadoor", sum := "581ca585729dd0f8ffd151cc7283de8533de554ae8e1babb49a0db22ac2c22e9", func := "roving/rovinglaw05.FileCrash", spec := "fileCrash", inPlace := ["internal/reflectlite.TypeOf", "internal/abi.NoEscape", "internal/reflectlite.ValueOf", "(internal/reflectlite.Value).Type", "(internal/reflectlite.Value).IsNil", "(internal/reflectlite.Value).Elem", "(internal/reflectlite.Value).Set"], unfollowed := true, recurses := true, named := ["errors.errorType"], apart := false, laid := [("errors.errorType", laid_errors_errorType)], narrowed := true }
def FileCrashUptoSaid : Prop := fileCrashUptoRow.holds Tryd.pinned (OpenSpec.upto fileCrashSpec)

end Rows
end Go.Proofs.YtdpfjdkjimaocaaDoor
