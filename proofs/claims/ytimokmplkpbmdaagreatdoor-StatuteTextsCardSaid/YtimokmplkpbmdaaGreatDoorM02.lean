/- A part of the proof: Gb. -/
import Derived.Test.YtimokmplkpbmdaaGreatDoorB20
import Derived.Test.YtimokmplkpbmdaaGreatDoorM01
set_option linter.all false
set_option maxRecDepth 100000
set_option maxHeartbeats 0
namespace Go.Proofs.YtimokmplkpbmdaaGreatDoor
open Go.RowKit
def meas (st:List (List UInt8)):Nat:=(st.map List.length).sum+2*st.length
theorem meas_split (st:List (List UInt8)) (r:Nat):meas st=meas (st.take r)+meas (st.drop r):=by
 unfold meas
 conv=>lhs;rw[<-List.take_append_drop r st]
 rw[List.map_append,List.sum_append,List.length_append];omega
end Go.Proofs.YtimokmplkpbmdaaGreatDoor
