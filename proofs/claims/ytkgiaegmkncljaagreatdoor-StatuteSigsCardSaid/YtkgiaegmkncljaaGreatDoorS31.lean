/- A part of the proof: Y7. -/
import Derived.Deep.CutBlock
import Derived.Test.YtkgiaegmkncljaaGreatDoorS24
set_option linter.unusedVariables false
set_option linter.unusedSimpArgs false
set_option maxRecDepth 100000
set_option maxHeartbeats 40000000
namespace Go.Proofs.YtkgiaegmkncljaaGreatDoor
open Go.RowKit
def ofN (sg:List Sg) (n:Nd) (l:List Ty):Ty × Int:=match ownT sg n with
 |none=>(tPlain,12)
 |some own=>if (ruleT n.op own l).2 then ((ruleT n.op own l).1,0) else (tPlain,13)
end Go.Proofs.YtkgiaegmkncljaaGreatDoor
