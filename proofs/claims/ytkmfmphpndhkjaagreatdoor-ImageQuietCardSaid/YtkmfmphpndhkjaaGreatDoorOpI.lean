/- The place of an open transaction in a part. -/
import Derived.Test.YtkmfmphpndhkjaaGreatDoorApA
namespace Go.Proofs.YtkmfmphpndhkjaaGreatDoor
open Go Go.RowKit
set_option linter.unusedVariables false
set_option linter.unusedSimpArgs false
def lH (l:List OpenD) (pid:Int):Nat:=l.findIdx (fun x=>decide (pid≤x.pid))
def vO (l:List OpenD) (pid:Int):Bool:=match l[lH l pid]? with
 | some o=>o.pid == pid
 | none=>false
theorem aB4 (l:List OpenD) (pid:Int):lH l pid≤l.length:=List.findIdx_le_length
end Go.Proofs.YtkmfmphpndhkjaaGreatDoor
