/- Package inline: reach,open,fits,impossible. -/
import Derived.Test.YtpklhnpchhaccaaGreatDoorApA
import Derived.Test.YtpklhnpchhaccaaGreatDoorErN
namespace Go.Proofs.YtpklhnpchhaccaaGreatDoor
open Go Go.RowKit
set_option maxHeartbeats 4000000
set_option maxRecDepth 100000
set_option linter.unusedVariables false
set_option linter.unusedSimpArgs false
def kG (l:List OpenD) (pid:Int):Nat:=l.findIdx (fun x=>decide (pid≤x.pid))
def sM (l:List OpenD) (pid:Int):Bool:=match l[kG l pid]? with
 | some o=>o.pid == pid
 | none=>false
theorem xR (l:List OpenD) (pid:Int):kG l pid≤l.length:=List.findIdx_le_length
end Go.Proofs.YtpklhnpchhaccaaGreatDoor
