/- The place of an open transaction in a part. -/
import Derived.Test.YtkmfmphpndhkjaaGreatDoorApA
namespace Go.Proofs.YtkmfmphpndhkjaaGreatDoor
open Go Go.RowKit
set_option linter.unusedVariables false
set_option linter.unusedSimpArgs false
def kG (l:List OpenD) (pid:Int):Nat:=l.findIdx (fun x=>decide (pid≤x.pid))
def sM (l:List OpenD) (pid:Int):Bool:=match l[kG l pid]? with
 | some o=>o.pid == pid
 | none=>false
theorem xR (l:List OpenD) (pid:Int):kG l pid≤l.length:=List.findIdx_le_length
end Go.Proofs.YtkmfmphpndhkjaaGreatDoor
