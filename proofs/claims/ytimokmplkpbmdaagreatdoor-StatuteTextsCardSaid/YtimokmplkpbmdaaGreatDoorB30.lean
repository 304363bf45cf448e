/- A part of the proof: Y7. -/
import Derived.Test.YtimokmplkpbmdaaGreatDoorB22
set_option linter.all false
set_option maxRecDepth 100000
set_option maxHeartbeats 0
namespace Go.Proofs.YtimokmplkpbmdaaGreatDoor
open Go.RowKit
def ofN (sg:List Sg) (n:Nd) (l:List Ty):Ty × Int:=match ownT sg n with
 |none=>(tPlain,12)
 |some own=>if (ruleT n.op own l).2 then ((ruleT n.op own l).1,0) else (tPlain,13)
end Go.Proofs.YtimokmplkpbmdaaGreatDoor
