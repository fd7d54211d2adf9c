/-
  NARROWER THAN 'FOR EVERY INPUT', by the rows' own cells (each row's printed sentence says how): DiskSure: laid · ReadPending: laid · ReadHides: laid · ReadCuts: laid · SeqsTake: laid · SeqsOnce: laid · SeqsApart: laid · CopyingResumes: laid · CopyingFolds: laid · CopyingOthers: laid · CopyingTells: laid · CopyingEnds: laid.
  DERIVED. THE GIVEN ROWS OF THIS SEAT. 12 by the template 'for every input the law returns true; each argument reads behind the call as it read before'; 0 by the template 'total and deterministic' (their statements: YtijnajohkljonaaDoorTotals.lean).
  GIVEN WITH THE SEED: the statements are not yours to turn. If you find one false, say at which input.
  Laid BY PROGRAM, IN A SANDBOX (cutbox-rows.mjs): the forced cells as the released guide's own fill.sh prints them over the translation 5c4311ce1e310a37… (all of the seat's roots in one cut). By AI agents, Wed Nov 11 2026. No macro, syntax, notation, axiom, sorry.
-/
import Derived.Test.YtijnajohkljonaaDoorChecked
import GoSem.Claim
import GoSem.ClaimJoined
import GoSem.ClaimMapViews
import Derived.JoinedTies
import Derived.KernelRfl
namespace Go.Proofs.YtijnajohkljonaaDoor
/- THE CELL 'sum', in the pinned program and in every row, IS THE sha256 OF THE DUMP (.gsa) THAT YtijnajohkljonaaDoorProg.lean LOADS. Nothing in Lean hashes anything: it is a label: what it is worth is what the hold of that sum in a sandbox is worth. -/
noncomputable def Tryd.pinned : Pinned := { name := "ytijnajohkljonaadoor", sum := "5c4311ce1e310a3741bf950324c3b4966ab7c34a0d4dcb7b8319cdd17dc8fd93", checked := Tryd.checked }
namespace Rows
def none {H : Type} : Left H := { results := [], args := [] }

/- WHAT THE LISTED PACKAGE-LEVEL VARIABLES READ AS WHEN THE CALL BEGINS. Each datum BY PROGRAM (the guide's laid-datum.mjs) off the statement by which the dump's own 'gosem.cut.vars' lays the variable. In a bare row this is a premise. The card (YtijnajohkljonaaDoorCards.lean) ties it to the program's text. -/
def laid_errors_errorType {H : Type} : DataW H := .iface "internal/reflectlite.rtype" (.agg [.ptr (.lit (.string [101, 114, 114, 111, 114]))])

/-- 'rovinglaw03.DiskSure': WHATEVER THE INPUT: true; the input reads as it did. -/
def diskSureSpec : ChangeSpec := { name := "diskSure", fn := fun _ => fun
  | [d1, d2] => { results := [.lit (.bool true)], args := [d1, d2] }
  | _ => none }
def diskSureRow : OpenClaim := { program := "ytijnajohkljonaadoor", sum := "5c4311ce1e310a3741bf950324c3b4966ab7c34a0d4dcb7b8319cdd17dc8fd93", func := "roving/rovinglaw03.DiskSure", spec := "diskSure", inPlace := ["internal/reflectlite.ValueOf", "(internal/reflectlite.Value).Type", "(internal/reflectlite.Value).IsNil", "internal/reflectlite.TypeOf", "(internal/reflectlite.Value).Elem", "(internal/reflectlite.Value).Set"], unfollowed := true, recurses := true, named := ["errors.errorType"], apart := false, laid := [("errors.errorType", laid_errors_errorType)] }
def DiskSureSaid : Prop := diskSureRow.holds Tryd.pinned (OpenSpec.ofChange diskSureSpec)

/-- ITS FALSE NEIGHBOUR: 'it returns false'. Refute it at one input. -/
def diskSureWrong : ChangeSpec := { name := "diskSure", fn := fun _ => fun
  | [d1, d2] => { results := [.lit (.bool false)], args := [d1, d2] }
  | _ => none }
def DiskSureWrongFalsely : Prop := diskSureRow.holds Tryd.pinned (OpenSpec.ofChange diskSureWrong)

/-- 'rovinglaw13.ReadPending': WHATEVER THE INPUT: true; the input reads as it did. -/
def readPendingSpec : ChangeSpec := { name := "readPending", fn := fun _ => fun
  | [d1, d2, d3] => { results := [.lit (.bool true)], args := [d1, d2, d3] }
  | _ => none }
def readPendingRow : OpenClaim := { program := "ytijnajohkljonaadoor", sum := "5c4311ce1e310a3741bf950324c3b4966ab7c34a0d4dcb7b8319cdd17dc8fd93", func := "roving/rovinglaw13.ReadPending", spec := "readPending", inPlace := ["internal/reflectlite.TypeOf", "internal/reflectlite.ValueOf", "(internal/reflectlite.Value).Type", "(internal/reflectlite.Value).IsNil", "(internal/reflectlite.Value).Elem", "(internal/reflectlite.Value).Set"], unfollowed := true, recurses := true, named := ["errors.errorType"], apart := false, laid := [("errors.errorType", laid_errors_errorType)] }
def ReadPendingSaid : Prop := readPendingRow.holds Tryd.pinned (OpenSpec.ofChange readPendingSpec)

/-- ITS FALSE NEIGHBOUR: 'it returns false'. Refute it at one input. -/
def readPendingWrong : ChangeSpec := { name := "readPending", fn := fun _ => fun
  | [d1, d2, d3] => { results := [.lit (.bool false)], args := [d1, d2, d3] }
  | _ => none }
def ReadPendingWrongFalsely : Prop := readPendingRow.holds Tryd.pinned (OpenSpec.ofChange readPendingWrong)

/-- 'rovinglaw13.ReadHides': WHATEVER THE INPUT: true; the input reads as it did. -/
def readHidesSpec : ChangeSpec := { name := "readHides", fn := fun _ => fun
  | [d1, d2, d3, d4, d5] => { results := [.lit (.bool true)], args := [d1, d2, d3, d4, d5] }
  | _ => none }
def readHidesRow : OpenClaim := { program := "ytijnajohkljonaadoor", sum := "5c4311ce1e310a3741bf950324c3b4966ab7c34a0d4dcb7b8319cdd17dc8fd93", func := "roving/rovinglaw13.ReadHides", spec := "readHides", inPlace := ["internal/reflectlite.TypeOf", "internal/reflectlite.ValueOf", "(internal/reflectlite.Value).Type", "(internal/reflectlite.Value).IsNil", "(internal/reflectlite.Value).Elem", "(internal/reflectlite.Value).Set"], unfollowed := true, recurses := true, named := ["errors.errorType"], apart := false, laid := [("errors.errorType", laid_errors_errorType)] }
def ReadHidesSaid : Prop := readHidesRow.holds Tryd.pinned (OpenSpec.ofChange readHidesSpec)

/-- ITS FALSE NEIGHBOUR: 'it returns false'. Refute it at one input. -/
def readHidesWrong : ChangeSpec := { name := "readHides", fn := fun _ => fun
  | [d1, d2, d3, d4, d5] => { results := [.lit (.bool false)], args := [d1, d2, d3, d4, d5] }
  | _ => none }
def ReadHidesWrongFalsely : Prop := readHidesRow.holds Tryd.pinned (OpenSpec.ofChange readHidesWrong)

/-- 'rovinglaw13.ReadCuts': WHATEVER THE INPUT: true; the input reads as it did. -/
def readCutsSpec : ChangeSpec := { name := "readCuts", fn := fun _ => fun
  | [d1, d2, d3] => { results := [.lit (.bool true)], args := [d1, d2, d3] }
  | _ => none }
def readCutsRow : OpenClaim := { program := "ytijnajohkljonaadoor", sum := "5c4311ce1e310a3741bf950324c3b4966ab7c34a0d4dcb7b8319cdd17dc8fd93", func := "roving/rovinglaw13.ReadCuts", spec := "readCuts", inPlace := ["internal/reflectlite.TypeOf", "internal/reflectlite.ValueOf", "(internal/reflectlite.Value).Type", "(internal/reflectlite.Value).IsNil", "(internal/reflectlite.Value).Elem", "(internal/reflectlite.Value).Set"], unfollowed := true, recurses := true, named := ["errors.errorType"], apart := false, laid := [("errors.errorType", laid_errors_errorType)] }
def ReadCutsSaid : Prop := readCutsRow.holds Tryd.pinned (OpenSpec.ofChange readCutsSpec)

/-- ITS FALSE NEIGHBOUR: 'it returns false'. Refute it at one input. -/
def readCutsWrong : ChangeSpec := { name := "readCuts", fn := fun _ => fun
  | [d1, d2, d3] => { results := [.lit (.bool false)], args := [d1, d2, d3] }
  | _ => none }
def ReadCutsWrongFalsely : Prop := readCutsRow.holds Tryd.pinned (OpenSpec.ofChange readCutsWrong)

/-- 'rovinglaw10.SeqsTake': WHATEVER THE INPUT: true; the input reads as it did. -/
def seqsTakeSpec : ChangeSpec := { name := "seqsTake", fn := fun _ => fun
  | [d1, d2, d3] => { results := [.lit (.bool true)], args := [d1, d2, d3] }
  | _ => none }
def seqsTakeRow : OpenClaim := { program := "ytijnajohkljonaadoor", sum := "5c4311ce1e310a3741bf950324c3b4966ab7c34a0d4dcb7b8319cdd17dc8fd93", func := "roving/rovinglaw10.SeqsTake", spec := "seqsTake", inPlace := ["internal/reflectlite.ValueOf", "(internal/reflectlite.Value).Type", "(internal/reflectlite.Value).IsNil", "internal/reflectlite.TypeOf", "(internal/reflectlite.Value).Elem", "(internal/reflectlite.Value).Set"], unfollowed := true, recurses := true, named := ["errors.errorType"], apart := false, laid := [("errors.errorType", laid_errors_errorType)] }
def SeqsTakeSaid : Prop := seqsTakeRow.holds Tryd.pinned (OpenSpec.ofChange seqsTakeSpec)

/-- ITS FALSE NEIGHBOUR: 'it returns false'. Refute it at one input. -/
def seqsTakeWrong : ChangeSpec := { name := "seqsTake", fn := fun _ => fun
  | [d1, d2, d3] => { results := [.lit (.bool false)], args := [d1, d2, d3] }
  | _ => none }
def SeqsTakeWrongFalsely : Prop := seqsTakeRow.holds Tryd.pinned (OpenSpec.ofChange seqsTakeWrong)

/-- 'rovinglaw10.SeqsOnce': WHATEVER THE INPUT: true; the input reads as it did. -/
def seqsOnceSpec : ChangeSpec := { name := "seqsOnce", fn := fun _ => fun
  | [d] => { results := [.lit (.bool true)], args := [d] }
  | _ => none }
def seqsOnceRow : OpenClaim := { program := "ytijnajohkljonaadoor", sum := "5c4311ce1e310a3741bf950324c3b4966ab7c34a0d4dcb7b8319cdd17dc8fd93", func := "roving/rovinglaw10.SeqsOnce", spec := "seqsOnce", inPlace := ["internal/reflectlite.ValueOf", "(internal/reflectlite.Value).Type", "(internal/reflectlite.Value).IsNil", "internal/reflectlite.TypeOf", "(internal/reflectlite.Value).Elem", "(internal/reflectlite.Value).Set"], unfollowed := true, recurses := true, named := ["errors.errorType"], apart := false, laid := [("errors.errorType", laid_errors_errorType)] }
def SeqsOnceSaid : Prop := seqsOnceRow.holds Tryd.pinned (OpenSpec.ofChange seqsOnceSpec)

/-- ITS FALSE NEIGHBOUR: 'it returns false'. Refute it at one input. -/
def seqsOnceWrong : ChangeSpec := { name := "seqsOnce", fn := fun _ => fun
  | [d] => { results := [.lit (.bool false)], args := [d] }
  | _ => none }
def SeqsOnceWrongFalsely : Prop := seqsOnceRow.holds Tryd.pinned (OpenSpec.ofChange seqsOnceWrong)

/-- 'rovinglaw10.SeqsApart': WHATEVER THE INPUT: true; the input reads as it did. -/
def seqsApartSpec : ChangeSpec := { name := "seqsApart", fn := fun _ => fun
  | [d1, d2, d3] => { results := [.lit (.bool true)], args := [d1, d2, d3] }
  | _ => none }
def seqsApartRow : OpenClaim := { program := "ytijnajohkljonaadoor", sum := "5c4311ce1e310a3741bf950324c3b4966ab7c34a0d4dcb7b8319cdd17dc8fd93", func := "roving/rovinglaw10.SeqsApart", spec := "seqsApart", inPlace := ["internal/reflectlite.ValueOf", "(internal/reflectlite.Value).Type", "(internal/reflectlite.Value).IsNil", "internal/reflectlite.TypeOf", "(internal/reflectlite.Value).Elem", "(internal/reflectlite.Value).Set"], unfollowed := true, recurses := true, named := ["errors.errorType"], apart := false, laid := [("errors.errorType", laid_errors_errorType)] }
def SeqsApartSaid : Prop := seqsApartRow.holds Tryd.pinned (OpenSpec.ofChange seqsApartSpec)

/-- ITS FALSE NEIGHBOUR: 'it returns false'. Refute it at one input. -/
def seqsApartWrong : ChangeSpec := { name := "seqsApart", fn := fun _ => fun
  | [d1, d2, d3] => { results := [.lit (.bool false)], args := [d1, d2, d3] }
  | _ => none }
def SeqsApartWrongFalsely : Prop := seqsApartRow.holds Tryd.pinned (OpenSpec.ofChange seqsApartWrong)

/-- 'rovinglaw15.CopyingResumes': WHATEVER THE INPUT: true; the input reads as it did. -/
def copyingResumesSpec : ChangeSpec := { name := "copyingResumes", fn := fun _ => fun
  | [d1, d2, d3] => { results := [.lit (.bool true)], args := [d1, d2, d3] }
  | _ => none }
def copyingResumesRow : OpenClaim := { program := "ytijnajohkljonaadoor", sum := "5c4311ce1e310a3741bf950324c3b4966ab7c34a0d4dcb7b8319cdd17dc8fd93", func := "roving/rovinglaw15.CopyingResumes", spec := "copyingResumes", inPlace := ["internal/reflectlite.TypeOf", "internal/reflectlite.ValueOf", "(internal/reflectlite.Value).Type", "(internal/reflectlite.Value).IsNil", "(internal/reflectlite.Value).Elem", "(internal/reflectlite.Value).Set"], unfollowed := true, recurses := true, named := ["errors.errorType"], apart := false, laid := [("errors.errorType", laid_errors_errorType)] }
def CopyingResumesSaid : Prop := copyingResumesRow.holds Tryd.pinned (OpenSpec.ofChange copyingResumesSpec)

/-- ITS FALSE NEIGHBOUR: 'it returns false'. Refute it at one input. -/
def copyingResumesWrong : ChangeSpec := { name := "copyingResumes", fn := fun _ => fun
  | [d1, d2, d3] => { results := [.lit (.bool false)], args := [d1, d2, d3] }
  | _ => none }
def CopyingResumesWrongFalsely : Prop := copyingResumesRow.holds Tryd.pinned (OpenSpec.ofChange copyingResumesWrong)

/-- 'rovinglaw15.CopyingFolds': WHATEVER THE INPUT: true; the input reads as it did. -/
def copyingFoldsSpec : ChangeSpec := { name := "copyingFolds", fn := fun _ => fun
  | [d1, d2] => { results := [.lit (.bool true)], args := [d1, d2] }
  | _ => none }
def copyingFoldsRow : OpenClaim := { program := "ytijnajohkljonaadoor", sum := "5c4311ce1e310a3741bf950324c3b4966ab7c34a0d4dcb7b8319cdd17dc8fd93", func := "roving/rovinglaw15.CopyingFolds", spec := "copyingFolds", inPlace := ["internal/reflectlite.TypeOf", "internal/reflectlite.ValueOf", "(internal/reflectlite.Value).Type", "(internal/reflectlite.Value).IsNil", "(internal/reflectlite.Value).Elem", "(internal/reflectlite.Value).Set"], unfollowed := true, recurses := true, named := ["errors.errorType"], apart := false, laid := [("errors.errorType", laid_errors_errorType)] }
def CopyingFoldsSaid : Prop := copyingFoldsRow.holds Tryd.pinned (OpenSpec.ofChange copyingFoldsSpec)

/-- ITS FALSE NEIGHBOUR: 'it returns false'. Refute it at one input. -/
def copyingFoldsWrong : ChangeSpec := { name := "copyingFolds", fn := fun _ => fun
  | [d1, d2] => { results := [.lit (.bool false)], args := [d1, d2] }
  | _ => none }
def CopyingFoldsWrongFalsely : Prop := copyingFoldsRow.holds Tryd.pinned (OpenSpec.ofChange copyingFoldsWrong)

/-- 'rovinglaw15.CopyingOthers': WHATEVER THE INPUT: true; the input reads as it did. -/
def copyingOthersSpec : ChangeSpec := { name := "copyingOthers", fn := fun _ => fun
  | [d1, d2, d3, d4] => { results := [.lit (.bool true)], args := [d1, d2, d3, d4] }
  | _ => none }
def copyingOthersRow : OpenClaim := { program := "ytijnajohkljonaadoor", sum := "5c4311ce1e310a3741bf950324c3b4966ab7c34a0d4dcb7b8319cdd17dc8fd93", func := "roving/rovinglaw15.CopyingOthers", spec := "copyingOthers", inPlace := ["internal/reflectlite.TypeOf", "internal/reflectlite.ValueOf", "(internal/reflectlite.Value).Type", "(internal/reflectlite.Value).IsNil", "(internal/reflectlite.Value).Elem", "(internal/reflectlite.Value).Set"], unfollowed := true, recurses := true, named := ["errors.errorType"], apart := false, laid := [("errors.errorType", laid_errors_errorType)] }
def CopyingOthersSaid : Prop := copyingOthersRow.holds Tryd.pinned (OpenSpec.ofChange copyingOthersSpec)

/-- ITS FALSE NEIGHBOUR: 'it returns false'. Refute it at one input. -/
def copyingOthersWrong : ChangeSpec := { name := "copyingOthers", fn := fun _ => fun
  | [d1, d2, d3, d4] => { results := [.lit (.bool false)], args := [d1, d2, d3, d4] }
  | _ => none }
def CopyingOthersWrongFalsely : Prop := copyingOthersRow.holds Tryd.pinned (OpenSpec.ofChange copyingOthersWrong)

/-- 'rovinglaw15.CopyingTells': WHATEVER THE INPUT: true; the input reads as it did. -/
def copyingTellsSpec : ChangeSpec := { name := "copyingTells", fn := fun _ => fun
  | [d1, d2, d3, d4] => { results := [.lit (.bool true)], args := [d1, d2, d3, d4] }
  | _ => none }
def copyingTellsRow : OpenClaim := { program := "ytijnajohkljonaadoor", sum := "5c4311ce1e310a3741bf950324c3b4966ab7c34a0d4dcb7b8319cdd17dc8fd93", func := "roving/rovinglaw15.CopyingTells", spec := "copyingTells", inPlace := ["internal/reflectlite.TypeOf", "internal/reflectlite.ValueOf", "(internal/reflectlite.Value).Type", "(internal/reflectlite.Value).IsNil", "(internal/reflectlite.Value).Elem", "(internal/reflectlite.Value).Set"], unfollowed := true, recurses := true, named := ["errors.errorType"], apart := false, laid := [("errors.errorType", laid_errors_errorType)] }
def CopyingTellsSaid : Prop := copyingTellsRow.holds Tryd.pinned (OpenSpec.ofChange copyingTellsSpec)

/-- ITS FALSE NEIGHBOUR: 'it returns false'. Refute it at one input. -/
def copyingTellsWrong : ChangeSpec := { name := "copyingTells", fn := fun _ => fun
  | [d1, d2, d3, d4] => { results := [.lit (.bool false)], args := [d1, d2, d3, d4] }
  | _ => none }
def CopyingTellsWrongFalsely : Prop := copyingTellsRow.holds Tryd.pinned (OpenSpec.ofChange copyingTellsWrong)

/-- 'rovinglaw15.CopyingEnds': WHATEVER THE INPUT: true; the input reads as it did. -/
def copyingEndsSpec : ChangeSpec := { name := "copyingEnds", fn := fun _ => fun
  | [d1, d2, d3] => { results := [.lit (.bool true)], args := [d1, d2, d3] }
  | _ => none }
def copyingEndsRow : OpenClaim := { program := "ytijnajohkljonaadoor", sum := "5c4311ce1e310a3741bf950324c3b4966ab7c34a0d4dcb7b8319cdd17dc8fd93", func := "roving/rovinglaw15.CopyingEnds", spec := "copyingEnds", inPlace := ["internal/reflectlite.TypeOf", "internal/reflectlite.ValueOf", "(internal/reflectlite.Value).Type", "(internal/reflectlite.Value).IsNil", "(internal/reflectlite.Value).Elem", "(internal/reflectlite.Value).Set"], unfollowed := true, recurses := true, named := ["errors.errorType"], apart := false, laid := [("errors.errorType", laid_errors_errorType)] }
def CopyingEndsSaid : Prop := copyingEndsRow.holds Tryd.pinned (OpenSpec.ofChange copyingEndsSpec)

/-- ITS FALSE NEIGHBOUR: 'it returns false'. Refute it at one input. -/
def copyingEndsWrong : ChangeSpec := { name := "copyingEnds", fn := fun _ => fun
  | [d1, d2, d3] => { results := [.lit (.bool false)], args := [d1, d2, d3] }
  | _ => none }
def CopyingEndsWrongFalsely : Prop := copyingEndsRow.holds Tryd.pinned (OpenSpec.ofChange copyingEndsWrong)

/- THE SECOND FORM. 'bulk': how many values and letters a reading holds, each counted each time it is reached (what is shared counts as often as it is met; a slice's spare places count too). A statement '..UptoSaid' is the law's where the arguments, and the package variables that the reading takes, are together of bulk at most 1048576: NARROWER than '..Said'. Prove '..Said' where nothing that the law and all that it calls make is longer than what came in: it says more and counts as full. Else prove '..UptoSaid'. A law counts once. -/
mutual
def uptoBulk {H : Type} : DataW H → Nat
  | .lit (.string bytes) => bytes.length + 1
  | .lit _ => 1
  | .nil => 1
  | .ptr d => uptoBulk d + 1
  | .slice elems spare => uptoBulkAll elems + uptoBulkAll spare + 1
  | .agg parts => uptoBulkAll parts + 1
  | .iface _ d => uptoBulk d + 1
  | .map entries => uptoBulkEntries entries + 1
  | .held _ => 1
def uptoBulkAll {H : Type} : List (DataW H) → Nat
  | [] => 0
  | d :: r => uptoBulk d + uptoBulkAll r
def uptoBulkEntries {H : Type} : List (Lit × DataW H) → Nat
  | [] => 0
  | x :: r => uptoBulkEntry x + uptoBulkEntries r
def uptoBulkEntry {H : Type} : Lit × DataW H → Nat
  | (.string bytes, d) => bytes.length + uptoBulk d + 1
  | (_, d) => uptoBulk d + 1
 end
def uptoSmall : (H : Type) → List (DataW H) → Bool := fun _ ds => decide (uptoBulkAll ds ≤ 1048576)
def OpenSpec.upto (s : _root_.Go.ChangeSpec) : _root_.Go.OpenSpec := { _root_.Go.OpenSpec.ofChange s with cond := some uptoSmall }

/-- 'rovinglaw03.DiskSure', WHERE WHAT IT READS IS OF BULK AT MOST 1048576: true; the input reads as it did. -/
def diskSureUptoRow : OpenClaim := { program := "ytijnajohkljonaadoor", sum := "5c4311ce1e310a3741bf950324c3b4966ab7c34a0d4dcb7b8319cdd17dc8fd93", func := "roving/rovinglaw03.DiskSure", spec := "diskSure", inPlace := ["internal/reflectlite.ValueOf", "(internal/reflectlite.Value).Type", "(internal/reflectlite.Value).IsNil", "internal/reflectlite.TypeOf", "(internal/reflectlite.Value).Elem", "(internal/reflectlite.Value).Set"], unfollowed := true, recurses := true, named := ["errors.errorType"], apart := false, laid := [("errors.errorType", laid_errors_errorType)], narrowed := true }
def DiskSureUptoSaid : Prop := diskSureUptoRow.holds Tryd.pinned (OpenSpec.upto diskSureSpec)

/-- 'rovinglaw13.ReadPending', WHERE WHAT IT READS IS OF BULK AT MOST 1048576: true; the input reads as it did. -/
def readPendingUptoRow : OpenClaim := { program := "ytijnajohkljonaadoor", sum := "5c4311ce1e310a3741bf950324c3b4966ab7c34a0d4dcb7b8319cdd17dc8fd93", func := "roving/rovinglaw13.ReadPending", spec := "readPending", inPlace := ["internal/reflectlite.TypeOf", "internal/reflectlite.ValueOf", "(internal/reflectlite.Value).Type", "(internal/reflectlite.Value).IsNil", "(internal/reflectlite.Value).Elem", "(internal/reflectlite.Value).Set"], unfollowed := true, recurses := true, named := ["errors.errorType"], apart := false, laid := [("errors.errorType", laid_errors_errorType)], narrowed := true }
def ReadPendingUptoSaid : Prop := readPendingUptoRow.holds Tryd.pinned (OpenSpec.upto readPendingSpec)

/-- 'rovinglaw13.ReadHides', WHERE WHAT IT READS IS OF BULK AT MOST 1048576: true; the input reads as it did. -/
def readHidesUptoRow : OpenClaim := { program := "ytijnajohkljonaadoor", sum := "5c4311ce1e310a3741bf950324c3b4966ab7c34a0d4dcb7b8319cdd17dc8fd93", func := "roving/rovinglaw13.ReadHides", spec := "readHides", inPlace := ["internal/reflectlite.TypeOf", "internal/reflectlite.ValueOf", "(internal/reflectlite.Value).Type", "(internal/reflectlite.Value).IsNil", "(internal/reflectlite.Value).Elem", "(internal/reflectlite.Value).Set"], unfollowed := true, recurses := true, named := ["errors.errorType"], apart := false, laid := [("errors.errorType", laid_errors_errorType)], narrowed := true }
def ReadHidesUptoSaid : Prop := readHidesUptoRow.holds Tryd.pinned (OpenSpec.upto readHidesSpec)

/-- 'rovinglaw13.ReadCuts', WHERE WHAT IT READS IS OF BULK AT MOST 1048576: true; the input reads as it did. -/
def readCutsUptoRow : OpenClaim := { program := "ytijnajohkljonaadoor", sum := "5c4311ce1e310a3741bf950324c3b4966ab7c34a0d4dcb7b8319cdd17dc8fd93", func := "roving/rovinglaw13.ReadCuts", spec := "readCuts", inPlace := ["internal/reflectlite.TypeOf", "internal/reflectlite.ValueOf", "(internal/reflectlite.Value).Type", "(internal/reflectlite.Value).IsNil", "(internal/reflectlite.Value).Elem", "(internal/reflectlite.Value).Set"], unfollowed := true, recurses := true, named := ["errors.errorType"], apart := false, laid := [("errors.errorType", laid_errors_errorType)], narrowed := true }
def ReadCutsUptoSaid : Prop := readCutsUptoRow.holds Tryd.pinned (OpenSpec.upto readCutsSpec)

/-- 'rovinglaw10.SeqsTake', WHERE WHAT IT READS IS OF BULK AT MOST 1048576: true; the input reads as it did. -/
def seqsTakeUptoRow : OpenClaim := { program := "ytijnajohkljonaadoor", sum := "5c4311ce1e310a3741bf950324c3b4966ab7c34a0d4dcb7b8319cdd17dc8fd93", func := "roving/rovinglaw10.SeqsTake", spec := "seqsTake", inPlace := ["internal/reflectlite.ValueOf", "(internal/reflectlite.Value).Type", "(internal/reflectlite.Value).IsNil", "internal/reflectlite.TypeOf", "(internal/reflectlite.Value).Elem", "(internal/reflectlite.Value).Set"], unfollowed := true, recurses := true, named := ["errors.errorType"], apart := false, laid := [("errors.errorType", laid_errors_errorType)], narrowed := true }
def SeqsTakeUptoSaid : Prop := seqsTakeUptoRow.holds Tryd.pinned (OpenSpec.upto seqsTakeSpec)

/-- 'rovinglaw10.SeqsOnce', WHERE WHAT IT READS IS OF BULK AT MOST 1048576: true; the input reads as it did. -/
def seqsOnceUptoRow : OpenClaim := { program := "ytijnajohkljonaadoor", sum := "5c4311ce1e310a3741bf950324c3b4966ab7c34a0d4dcb7b8319cdd17dc8fd93", func := "roving/rovinglaw10.SeqsOnce", spec := "seqsOnce", inPlace := ["internal/reflectlite.ValueOf", "(internal/reflectlite.Value).Type", "(internal/reflectlite.Value).IsNil", "internal/reflectlite.TypeOf", "(internal/reflectlite.Value).Elem", "(internal/reflectlite.Value).Set"], unfollowed := true, recurses := true, named := ["errors.errorType"], apart := false, laid := [("errors.errorType", laid_errors_errorType)], narrowed := true }
def SeqsOnceUptoSaid : Prop := seqsOnceUptoRow.holds Tryd.pinned (OpenSpec.upto seqsOnceSpec)

/-- 'rovinglaw10.SeqsApart', WHERE WHAT IT READS IS OF BULK AT MOST 1048576: true; the input reads as it did. -/
def seqsApartUptoRow : OpenClaim := { program := "ytijnajohkljonaadoor", sum := "5c4311ce1e310a3741bf950324c3b4966ab7c34a0d4dcb7b8319cdd17dc8fd93", func := "roving/rovinglaw10.SeqsApart", spec := "seqsApart", inPlace := ["internal/reflectlite.ValueOf", "(internal/reflectlite.Value).Type", "(internal/reflectlite.Value).IsNil", "internal/reflectlite.TypeOf", "(internal/reflectlite.Value).Elem", "(internal/reflectlite.Value).Set"], unfollowed := true, recurses := true, named := ["errors.errorType"], apart := false, laid := [("errors.errorType", laid_errors_errorType)], narrowed := true }
def SeqsApartUptoSaid : Prop := seqsApartUptoRow.holds Tryd.pinned (OpenSpec.upto seqsApartSpec)

/-- 'rovinglaw15.CopyingResumes', WHERE WHAT IT READS IS OF BULK AT MOST 1048576: true; the input reads as it did. -/
def copyingResumesUptoRow : OpenClaim := { program := "ytijnajohkljonaadoor", sum := "5c4311ce1e310a3741bf950324c3b4966ab7c34a0d4dcb7b8319cdd17dc8fd93", func := "roving/rovinglaw15.CopyingResumes", spec := "copyingResumes", inPlace := ["internal/reflectlite.TypeOf", "internal/reflectlite.ValueOf", "(internal/reflectlite.Value).Type", "(internal/reflectlite.Value).IsNil", "(internal/reflectlite.Value).Elem", "(internal/reflectlite.Value).Set"], unfollowed := true, recurses := true, named := ["errors.errorType"], apart := false, laid := [("errors.errorType", laid_errors_errorType)], narrowed := true }
def CopyingResumesUptoSaid : Prop := copyingResumesUptoRow.holds Tryd.pinned (OpenSpec.upto copyingResumesSpec)

/-- 'rovinglaw15.CopyingFolds', WHERE WHAT IT READS IS OF BULK AT MOST 1048576: true; the input reads as it did. -/
def copyingFoldsUptoRow : OpenClaim := { program := "ytijnajohkljonaadoor", sum := "5c4311ce1e310a3741bf950324c3b4966ab7c34a0d4dcb7b8319cdd17dc8fd93", func := "roving/rovinglaw15.CopyingFolds", spec := "copyingFolds", inPlace := ["internal/reflectlite.TypeOf", "internal/reflectlite.ValueOf", "(internal/reflectlite.Value).Type", "(internal/reflectlite.Value).IsNil", "(internal/reflectlite.Value).Elem", "(internal/reflectlite.Value).Set"], unfollowed := true, recurses := true, named := ["errors.errorType"], apart := false, laid := [("errors.errorType", laid_errors_errorType)], narrowed := true }
def CopyingFoldsUptoSaid : Prop := copyingFoldsUptoRow.holds Tryd.pinned (OpenSpec.upto copyingFoldsSpec)

/-- 'rovinglaw15.CopyingOthers', WHERE WHAT IT READS IS OF BULK AT MOST 1048576: true; the input reads as it did. -/
def copyingOthersUptoRow : OpenClaim := { program := "ytijnajohkljonaadoor", sum := "5c4311ce1e310a3741bf950324c3b4966ab7c34a0d4dcb7b8319cdd17dc8fd93", func := "roving/rovinglaw15.CopyingOthers", spec := "copyingOthers", inPlace := ["internal/reflectlite.TypeOf", "internal/reflectlite.ValueOf", "(internal/reflectlite.Value).Type", "(internal/reflectlite.Value).IsNil", "(internal/reflectlite.Value).Elem", "(internal/reflectlite.Value).Set"], unfollowed := true, recurses := true, named := ["errors.errorType"], apart := false, laid := [("errors.errorType", laid_errors_errorType)], narrowed := true }
def CopyingOthersUptoSaid : Prop := copyingOthersUptoRow.holds Tryd.pinned (OpenSpec.upto copyingOthersSpec)

/-- 'rovinglaw15.CopyingTells', WHERE WHAT IT READS IS OF BULK AT MOST 1048576: true; the input reads as it did. -/
def copyingTellsUptoRow : OpenClaim := { program := "ytijnajohkljonaadoor", sum := "5c4311ce1e310a3741bf950324c3b4966ab7c34a0d4dcb7b8319cdd17dc8fd93", func := "roving/rovinglaw15.CopyingTells", spec := "copyingTells", inPlace := ["internal/reflectlite.TypeOf", "internal/reflectlite.ValueOf", "(internal/reflectlite.Value).Type", "(internal/reflectlite.Value).IsNil", "(internal/reflectlite.Value).Elem", "(internal/reflectlite.Value).Set"], unfollowed := true, recurses := true, named := ["errors.errorType"], apart := false, laid := [("errors.errorType", laid_errors_errorType)], narrowed := true }
def CopyingTellsUptoSaid : Prop := copyingTellsUptoRow.holds Tryd.pinned (OpenSpec.upto copyingTellsSpec)

/-- 'rovinglaw15.CopyingEnds', WHERE WHAT IT READS IS OF BULK AT MOST 1048576: true; the input reads as it did. -/
def copyingEndsUptoRow : OpenClaim := { program := "ytijnajohkljonaadoor", sum := "5c4311ce1e310a3741bf950324c3b4966ab7c34a0d4dcb7b8319cdd17dc8fd93", func := "roving/rovinglaw15.CopyingEnds", spec := "copyingEnds", inPlace := ["internal/reflectlite.TypeOf", "internal/reflectlite.ValueOf", "(internal/reflectlite.Value).Type", "(internal/reflectlite.Value).IsNil", "(internal/reflectlite.Value).Elem", "(internal/reflectlite.Value).Set"], unfollowed := true, recurses := true, named := ["errors.errorType"], apart := false, laid := [("errors.errorType", laid_errors_errorType)], narrowed := true }
def CopyingEndsUptoSaid : Prop := copyingEndsUptoRow.holds Tryd.pinned (OpenSpec.upto copyingEndsSpec)

end Rows
end Go.Proofs.YtijnajohkljonaaDoor
