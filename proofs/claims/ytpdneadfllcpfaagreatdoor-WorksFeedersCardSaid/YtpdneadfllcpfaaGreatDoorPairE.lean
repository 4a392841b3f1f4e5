/-
  A value and an error.
-/
import Derived.Test.YtpdneadfllcpfaaGreatDoorEng2
set_option linter.unusedVariables false
set_option linter.unusedSimpArgs false
set_option linter.unnecessarySimpa false
namespace Go.Proofs.YtpdneadfllcpfaaGreatDoor
open Go.RowKit
def z1f (e:Int) (a:AV):AV:=.tup [a,.val (.int .i64 e)]
theorem q96 (e:Int):Wraps (z1f e):=.pair (.val (.int .i64 e)) (fun _=>rfl) rfl
end Go.Proofs.YtpdneadfllcpfaaGreatDoor
