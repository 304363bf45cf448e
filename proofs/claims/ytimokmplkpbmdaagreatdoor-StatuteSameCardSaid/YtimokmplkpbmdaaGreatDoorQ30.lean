/- A part of the proof: Y7. -/
import Derived.Test.YtimokmplkpbmdaaGreatDoorQ22
set_option linter.all false
set_option maxRecDepth 100000
set_option maxHeartbeats 0
namespace Go.Proofs.YtimokmplkpbmdaaGreatDoor
open Go.RowKit
def pU (sg:List Sg) (n:Nd) (l:List Ty):Ty × Int:=match o8 sg n with
 |none=>(bV,12)
 |some own=>if (fH n.op own l).2 then ((fH n.op own l).1,0) else (bV,13)
end Go.Proofs.YtimokmplkpbmdaaGreatDoor
