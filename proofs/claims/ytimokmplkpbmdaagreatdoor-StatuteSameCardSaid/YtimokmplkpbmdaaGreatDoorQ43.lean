/- A part of the proof: Z9. -/
import Derived.Test.YtimokmplkpbmdaaGreatDoorQ42
set_option linter.all false
set_option maxRecDepth 100000
set_option maxHeartbeats 0
namespace Go.Proofs.YtimokmplkpbmdaaGreatDoor
open Go.RowKit
theorem ET.text {l:Lw} (h:ET l):(dh l).length<=1000000:=by
 have h1:=OT h.chk;obtain⟨a,b,c⟩:=h.n.len;have h2:(jP l).length<=11:=by unfold jP;simp only[List.length_append,List.length_map];omega
 have h3:=Nat.mul_le_mul_right 50001 h2;omega
end Go.Proofs.YtimokmplkpbmdaaGreatDoor
